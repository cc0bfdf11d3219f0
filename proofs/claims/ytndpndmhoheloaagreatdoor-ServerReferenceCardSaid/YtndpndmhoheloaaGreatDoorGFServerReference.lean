/- Part 7 of a proof of the law ServerReference: Go data as trees, the walks of the functions that the law reaches, the plain laws. -/
import Derived.Test.YtndpndmhoheloaaGreatDoorGEServerReference
import Derived.Shelf.Small.Strs
import Derived.Shelf.Strings.Prefix
import Derived.Shelf.Strings.Fields
import Derived.Test.YtndpndmhoheloaaGreatDoorProg
import Derived.Lib.Strings
open List renaming append_assoc->aOe,append_nil->aN9,cons_append->aMl,drop_eq_getElem_cons->aOi,drop_zero->aOh,getD_eq_getElem?_getD->aNj,getElem?_append_left->aM0,getElem?_append_right->aM1,getElem?_eq_getElem->aNi,getElem?_set_ne->aM5,getElem?_set_self->aM4,getElem_cons_zero->aMn,getElem_map->aMm,getElem_mem->aNq,length_append->aNo,length_cons->aM7,length_drop->aNd,length_map->aMw,length_nil->aOa,length_take->aNe,map_nil->aOb,mem_append->aN0,mem_cons->aN2,mem_map->aNy,mem_range->aN6,mem_singleton->aN8,nil_append->aN7,not_mem_nil->aOc,replicate->aNb,replicate_zero->aOd,take_length->aOj
open Nat renaming add_mul->aNu,add_zero->aNm,le_refl->aMq,le_trans->aMr,lt_of_lt_of_le->aMs,lt_or_ge->aMo,sub_self->aNt,succ_ne_self->aOf,zero_add->aNn,zero_le->aNs
open Go.Sem renaming run_bind->aM9,run_pure->aNc
open Go.Result renaming andThen_ok->aNa
open Bool renaming eq_iff_iff->aN1,false_eq_true->aNh
open Array renaming getD_eq_getD_getElem?->aMt,getElem?_eq_getElem->aMy
open Option renaming getD_some->aMz,map_some->aM6
set_option linter.unusedSectionVars false
set_option linter.unnecessarySimpa false
set_option linter.unusedVariables false
set_option linter.unusedSimpArgs false
namespace Go.Proofs
open Go.Shelf
def Tryz.lays106_ren:Go.Shelf.Ren:=⟨fun|106=>56|213=>76|265=>101|n=>n,fun|9=>9|3=>3|n=>n,fun|n=>n⟩
theorem Tryz.lays106:Go.Proofs.Lays.n106 Tryz.prog Tryz.lays106_ren:= {
 mixed:=by kernel_rfl
 f106:=Tryz.func56.trans (congrArg some (by kernel_rfl))
 f213:=Tryz.func76.trans (congrArg some (by kernel_rfl))
 f265:=Tryz.func101.trans (congrArg some (by kernel_rfl))
 t3:=Tryz.underlying3
 a3:=Tryz.isAgg3
 z3:=Tryz.sizeOf3
 v3:=Tryz.zeroValue3
 t9:=Tryz.underlying9
 a9:=Tryz.isAgg9
 z9:=Tryz.sizeOf9
 v9:=Tryz.zeroValue9}
def Tryz.lays137_ren:Go.Shelf.Ren:=⟨fun|137=>98|217=>115|266=>128|n=>n,fun|9=>9|5=>5|3=>3|n=>n,fun|n=>n⟩
theorem Tryz.lays137:Go.Proofs.Lays.n137 Tryz.prog Tryz.lays137_ren:= {
 mixed:=by kernel_rfl
 f137:=Tryz.func98.trans (congrArg some (by kernel_rfl))
 f217:=Tryz.func115.trans (congrArg some (by kernel_rfl))
 f266:=Tryz.func128.trans (congrArg some (by kernel_rfl))
 t3:=Tryz.underlying3
 a3:=Tryz.isAgg3
 z3:=Tryz.sizeOf3
 v3:=Tryz.zeroValue3
 t5:=Tryz.underlying5
 a5:=Tryz.isAgg5
 z5:=Tryz.sizeOf5
 v5:=Tryz.zeroValue5
 t9:=Tryz.underlying9
 a9:=Tryz.isAgg9
 z9:=Tryz.sizeOf9
 v9:=Tryz.zeroValue9}
def Tryz.lays99_ren:Go.Shelf.Ren:=⟨fun|99=>89|206=>111|n=>n,fun|9=>9|4=>4|3=>3|n=>n,fun|n=>n⟩
theorem Tryz.lays99:Go.Proofs.Lays.n99 Tryz.prog Tryz.lays99_ren:= {
 mixed:=by kernel_rfl
 f99:=Tryz.func89.trans (congrArg some (by kernel_rfl))
 f206:=Tryz.func111.trans (congrArg some (by kernel_rfl))
 t3:=Tryz.underlying3
 a3:=Tryz.isAgg3
 z3:=Tryz.sizeOf3
 v3:=Tryz.zeroValue3
 t4:=Tryz.underlying4
 a4:=Tryz.isAgg4
 z4:=Tryz.sizeOf4
 v4:=Tryz.zeroValue4
 t9:=Tryz.underlying9
 a9:=Tryz.isAgg9
 z9:=Tryz.sizeOf9
 v9:=Tryz.zeroValue9}
def Tryz.lays157_ren:Go.Shelf.Ren:=⟨fun|157=>113|229=>126|199=>127|261=>146|311=>155|312=>156|n=>n,fun|9=>9|31=>154|3=>3|5=>5|4=>4|119=>181|0=>0|40=>183|152=>200|21=>21|154=>202|51=>197|141=>204|196=>216|193=>213|198=>219|49=>217|194=>214|201=>222|226=>226|46=>134|227=>227|n=>n,fun|0=>1|6=>2|n=>n⟩
theorem Tryz.lays157:Go.Proofs.Lays.n157 Tryz.prog Tryz.lays157_ren:= {
 mixed:=by kernel_rfl
 f157:=Tryz.func113.trans (congrArg some (by kernel_rfl))
 f199:=Tryz.func127.trans (congrArg some (by kernel_rfl))
 f229:=Tryz.func126.trans (congrArg some (by kernel_rfl))
 f261:=Tryz.func146.trans (congrArg some (by kernel_rfl))
 f311:=Tryz.func155.trans (congrArg some (by kernel_rfl))
 f312:=Tryz.func156.trans (congrArg some (by kernel_rfl))
 t0:=Tryz.underlying0
 a0:=Tryz.isAgg0
 z0:=Tryz.sizeOf0
 v0:=Tryz.zeroValue0
 t3:=Tryz.underlying3
 a3:=Tryz.isAgg3
 z3:=Tryz.sizeOf3
 v3:=Tryz.zeroValue3
 t4:=Tryz.underlying4
 a4:=Tryz.isAgg4
 z4:=Tryz.sizeOf4
 v4:=Tryz.zeroValue4
 t5:=Tryz.underlying5
 a5:=Tryz.isAgg5
 z5:=Tryz.sizeOf5
 v5:=Tryz.zeroValue5
 t9:=Tryz.underlying9
 a9:=Tryz.isAgg9
 z9:=Tryz.sizeOf9
 v9:=Tryz.zeroValue9
 t21:=Tryz.underlying21
 a21:=Tryz.isAgg21
 z21:=Tryz.sizeOf21
 v21:=Tryz.zeroValue21
 t31:=Tryz.underlying154
 a31:=Tryz.isAgg154
 z31:=Tryz.sizeOf154
 v31:=Tryz.zeroValue154
 t40:=Tryz.underlying183
 a40:=Tryz.isAgg183
 z40:=Tryz.sizeOf183
 v40:=Tryz.zeroValue183
 t46:=Tryz.underlying134
 a46:=Tryz.isAgg134
 z46:=Tryz.sizeOf134
 v46:=Tryz.zeroValue134
 t49:=Tryz.underlying217
 a49:=Tryz.isAgg217
 z49:=Tryz.sizeOf217
 v49:=Tryz.zeroValue217
 t51:=Tryz.underlying197
 a51:=Tryz.isAgg197
 z51:=Tryz.sizeOf197
 v51:=Tryz.zeroValue197
 t119:=Tryz.underlying181
 a119:=Tryz.isAgg181
 z119:=Tryz.sizeOf181
 t141:=Tryz.underlying204
 a141:=Tryz.isAgg204
 z141:=Tryz.sizeOf204
 v141:=Tryz.zeroValue204
 t152:=Tryz.underlying200
 a152:=Tryz.isAgg200
 z152:=Tryz.sizeOf200
 v152:=Tryz.zeroValue200
 t154:=Tryz.underlying202
 a154:=Tryz.isAgg202
 z154:=Tryz.sizeOf202
 v154:=Tryz.zeroValue202
 t193:=Tryz.underlying213
 a193:=Tryz.isAgg213
 z193:=Tryz.sizeOf213
 v193:=Tryz.zeroValue213
 t194:=Tryz.underlying214
 a194:=Tryz.isAgg214
 z194:=Tryz.sizeOf214
 v194:=Tryz.zeroValue214
 t196:=Tryz.underlying216
 a196:=Tryz.isAgg216
 z196:=Tryz.sizeOf216
 v196:=Tryz.zeroValue216
 t198:=Tryz.underlying219
 a198:=Tryz.isAgg219
 z198:=Tryz.sizeOf219
 v198:=Tryz.zeroValue219
 t201:=Tryz.underlying222
 a201:=Tryz.isAgg222
 z201:=Tryz.sizeOf222
 v201:=Tryz.zeroValue222
 t226:=Tryz.underlying226
 a226:=Tryz.isAgg226
 z226:=Tryz.sizeOf226
 v226:=Tryz.zeroValue226
 t227:=Tryz.underlying227
 a227:=Tryz.isAgg227
 z227:=Tryz.sizeOf227
 v227:=Tryz.zeroValue227
 g0:=by kernel_rfl
 g6:=by kernel_rfl}
open Go.RowKit in
theorem Tryz.strings_Compare(a b:ByteArray)(w:World):
  Calls Tryz.prog 56 #[.string a, .string b] w λe w'=>e= .returned (.int .i64 (Lib.compareBytes a.data.toList b.data.toList))/\w'=w:=Any.strings_Compare Tryz.lays106 a b w
open Go.RowKit in
theorem Tryz.strings_IndexByte(s:ByteArray)(c:Int)(w:World):
  Calls Tryz.prog 98 #[.string s, .int .u8 c] w λe w'=>e= .returned (.int .i64 (Lib.indexByte s.data.toList c.toNat.toUInt8))/\w'=w:=Any.strings_IndexByte Tryz.lays137 s c w
open Go.RowKit Go.Lib in
theorem Tryz.strings_HasPrefix(s p:ByteArray)(w:World):
  Calls Tryz.prog 89 #[.string s, .string p] w λe w'=>e= .returned (.bool (Lib.hasPrefix s.data.toList p.data.toList))/\w'=w:=Any.strings_HasPrefix Tryz.lays99 s p w
end Go.Proofs
set_option maxRecDepth 4000
namespace Go.Abs
open Go.Proofs Go.RowKit
theorem QG{V:cG}{vargs:Array Value}{p q:PV}(h:RL V vargs [p,q]):∃v0 v1,vargs= #[v0,v1]/\aQ V v0 p/\aQ V v1 q:=by
 obtain⟨hsz,hr⟩:=h;have h0:=hr 0 zz;have h1:=hr 1 zz;simp only[aMn,List.getElem_cons_succ]at h0 h1;have hs:vargs.size=2:=by simpa using hsz
 rw[aMt,aMy z8]at h0 h1;refine⟨vargs[0],vargs[1], ?_,h0,h1⟩;apply Array.ext<;>simp[hs];intro i hi hi2;match i,hi2 with|0,_=>rfl|1,_=>rfl
theorem zG(s:List UInt8)(c:UInt8):PC Tryz.prog 98 [.str s, .int .u8 c.toNat] (aE (Lib.indexByte s c)):=λH=>by
 refine rO λE vargs ho hH hrl=> ?_;obtain⟨v0,v1,rfl,h0,h1⟩:=QG hrl;cases h0 with
 |str z=>
  generalize hk:(PV.int IntKind.u8 (c.toNat:Int))=p at h1;cases h1<;>cases hk;refine⟨_,aQ.int _ _,(Tryz.strings_IndexByte z (c.toNat:Int) E.w).mono λe w' ⟨h1,h2⟩=>⟨?_,h2▸Below.refl _ _⟩⟩;rw[h1];simp
theorem MC(s p:List UInt8):PC Tryz.prog 89 [.str s, .str p] (.bool (Lib.hasPrefix s p)):=λH=>by
 refine rO λE vargs ho hH hrl=> ?_;obtain⟨v0,v1,rfl,h0,h1⟩:=QG hrl;cases h0 with
 |str z=>cases h1 with
  |str y=>exact⟨_,aQ.bool _,(Tryz.strings_HasPrefix z y E.w).mono λe w' ⟨h1,h2⟩=>⟨h1,h2▸Below.refl _ _⟩⟩
end Go.Abs
namespace Go.Abs
theorem JH{E:aK}(ho:E.Ok)(xs:List (List UInt8))(t:TypeId)(hm:xs.length<=maxLen):
  aQ (E.newFixed (.cells (xs.map λl=>Value.string ⟨l.toArray⟩).toArray t (0,0))).view (.slice (some ⟨E.w.heap.size,0,none⟩) xs.length xs.length) (.slice (xs.map PV.str) .none):=by
 have hadd:∀n,(⟨E.w.heap.size,0,none⟩:Addr).add n=⟨E.w.heap.size,n,none⟩:=by
  intro n;unfold Addr.add;split
  ·rename_i e;subst e;rfl
  ·simp
 refine .slice _ _ _ 1 _ _ (λi _=>Value.string ⟨(xs.getD i []).toArray⟩) zz (aMq _) hm ?_ ?_ ?_ trivial
 ·intro i hi;simp only[aMm];rfl
 ·intro i j hi hj;have hj0:j=0:=z8
  subst hj0;rw[hadd,Nat.mul_one,aNm];simp only[aK.view,aK.newFixed,if_pos,rN.stable,if_true];unfold World.cell?;rw[heap_alloc_new];simp[hi,aNj]
 ·intro i j hi hj;simp only[aMm]at hj⊢;have hi':i<xs.length:=by simpa using hi
  have hj0:j=0:=by
   have:j<1:=hj;omega
  subst hj0;rw[aNj,aNi hi'];exact aQ.str ⟨xs[i].toArray⟩
theorem CV{P:Program}{f:FuncId}{args:List PV}{H:aH}{xs:List (List UInt8)}{t:TypeId}(hm:xs.length<=maxLen)
  (h:∀(E:aK) (vargs:Array Value),E.Ok->E.H=H->RL E.view vargs args->Calls P f vargs E.w λe w'=>e= .returned (.slice (some ⟨E.w.heap.size,0,none⟩) xs.length xs.length)/\w'=E.w.alloc (.cells (xs.map λl=>Value.string ⟨l.toArray⟩).toArray t (0,0))):
  aR P f args H λr' H'=>r'= .slice (xs.map PV.str) .none/\H'=H:=by
 intro E vargs ho hH hrl;refine(h E vargs ho hH hrl).mono ?_;rintro e w' ⟨rfl,rfl⟩;exact⟨E.newFixed _,_,_,rfl,rfl,aK.newFixed_le ho _,ho.newFixed _,JH ho xs t hm,rfl,hH⟩
open Go.Proofs Go.RowKit
def spT:List Value:=(List.range 256).map λc=>.int .u8 (if Lib.isSp (UInt8.ofNat c)then 1 else 0)
def gO:AObj:=.glob (Tryz.lays157_ren.g 0) spT
def GC:aH:= [gO]
theorem aE1{V:cG}{vargs:Array Value}{p:PV}(h:RL V vargs [p]):∃v0,vargs= #[v0]/\aQ V v0 p:=by
 obtain⟨hsz,hr⟩:=h;have h0:=hr 0 zz;simp only[aMn]at h0;have hs:vargs.size=1:=by simpa using hsz
 rw[aMt,aMy z8]at h0;refine⟨vargs[0], ?_,h0⟩;apply Array.ext<;>simp[hs];intro i hi;subst hi;rfl
theorem ZM(s:List UInt8)(hs:s.length<4294967281)(ha:∀b∈s,b.toNat<128)(hf:(Lib.fields s).length<=maxLen){H:aH}(hG:H[0]? =some gO):aR Tryz.prog 113 [.str s] H λr' H'=>r'= .slice ((Lib.fields s).map PV.str) .none/\H'=H:=by
 refine CV (t:=9) hf λE vargs ho hH hrl=> ?_;obtain⟨v0,rfl,h0⟩:=aE1 hrl;cases h0 with
 |str z=>
  have hg:=hG;rw[<-hH]at hg;refine Any.strings_Fields_core Tryz.lays157 (by kernel_rfl) z E.w (by rw[Lib.size_eq];exact hs) (λj b hb=>ha b (List.mem_of_getElem? hb)) λc hc=> ?_;have hl:c<spT.length:=by simpa[spT]using hc
  rw[TG ho hg hl];simp[spT]
end Go.Abs
namespace Go.Abs
open Go.Proofs Go.RowKit
abbrev G0:aH:=GC
theorem GR(s:List UInt8)(hs:s.length<4294967281)(ha:∀b∈s,b.toNat<128)(hf:(Lib.fields s).length<=maxLen):PG G0 Tryz.prog 113 [.str s] (.slice ((Lib.fields s).map PV.str) .none):=λH hG=>ZM s hs ha hf (hG 0 _ rfl)
end Go.Abs
namespace Go.Abs
open Go.Proofs
theorem wW:Lib.fields [117,115,101,32,112,117,98,32,97,115,32,102,110,32,115,116,114,117,99,116,32,101,110,117,109,32,116,114,97,105,116,32,105,109,112,108,32,102,111,114,32,99,111,110,115,116,32,109,97,99,114,111,32,108,101,116,32,109,117,116,32,119,104,105,108,101,32,114,101,116,117,114,110,32,109,97,116,99,104,32,105,102,32,101,108,115,101,32,110,101,119,32,116,114,117,101,32,102,97,108,115,101,32,116,121,112,101]=kwL:=by kernel_rfl
theorem OF:PG G0 Tryz.prog 95 [] (.slice (kwL.map PV.str) .none):=by
 have hk:=GR [117,115,101,32,112,117,98,32,97,115,32,102,110,32,115,116,114,117,99,116,32,101,110,117,109,32,116,114,97,105,116,32,105,109,112,108,32,102,111,114,32,99,111,110,115,116,32,109,97,99,114,111,32,108,101,116,32,109,117,116,32,119,104,105,108,101,32,114,101,116,117,114,110,32,109,97,116,99,104,32,105,102,32,101,108,115,101,32,110,101,119,32,116,114,117,101,32,102,97,108,115,101,32,116,121,112,101] z7 z7 (by rw[wW];decide);rw[wW]at hk;refine QQ (N:=2) Tryz.func95 rfl rfl zz (oX _ _) λH hG hb'=> ?_
 repeat refine wS ?_
 refine eE (by simp only[kA,seval,aE,qC]<;>with_reducible rfl) z7 ?_
 repeat refine wS ?_
 refine wR ?_;refine oP (by simp only[kC,seval,aE,qC]<;>rfl) (by simp only[kC,seval,aE,qC]) z7 ZO (hk _ hG) ?_;refine xF (by simp only[kA,seval,aE,qC]<;>with_reducible rfl) z7 ?_
 repeat refine wS ?_
 refine wT ⟨.inr rfl,_,_,rfl, ?_,(by first|exact(aN9 _).symm|rfl)⟩;simp only[jN,seval,aE,qC]
 try rfl
theorem RV:Lib.fields [58,58,32,61,62,32,45,62,32,61,61,32,38,38,32,124,124]=aAx:=by kernel_rfl
theorem aHr:PG G0 Tryz.prog 97 [] (.slice (aAx.map PV.str) .none):=by
 have hk:=GR [58,58,32,61,62,32,45,62,32,61,61,32,38,38,32,124,124] z7 z7 (by rw[RV];decide);rw[RV]at hk;refine QQ (N:=2) Tryz.func97 rfl rfl zz (oX _ _) λH hG hb'=> ?_
 repeat refine wS ?_
 refine eE (by simp only[kA,seval,aE,qC]<;>with_reducible rfl) z7 ?_
 repeat refine wS ?_
 refine wR ?_;refine oP (by simp only[kC,seval,aE,qC]<;>rfl) (by simp only[kC,seval,aE,qC]) z7 ZO (hk _ hG) ?_;refine xF (by simp only[kA,seval,aE,qC]<;>with_reducible rfl) z7 ?_
 repeat refine wS ?_
 refine wT ⟨.inr rfl,_,_,rfl, ?_,(by first|exact(aN9 _).symm|rfl)⟩;simp only[jN,seval,aE,qC]
 try rfl
theorem nT:∀(l:List UInt8) (c:UInt8),decide (Lib.indexByte l c>=0)=l.contains c
 | [],c=>by simp[Lib.indexByte]
 |b::l,c=>by
  have ih:=nT l c;have hge:=Lib.indexByte_ge l c;rw[List.contains_cons,<-ih,Lib.indexByte]
  by_cases h:b=c
  ·subst h;simp
  ·have h1:(b==c)=false:=by simpa using h
   have h2:(c==b)=false:=by simpa using λe=>h e.symm
   rw[h1,h2];simp only[aNh,if_false,Bool.false_or]
   by_cases h3:Lib.indexByte l c= -1
   ·simp[h3]
   ·have:(Lib.indexByte l c== -1)=false:=by simpa using h3
    rw[this];simp only[aNh,if_false,decide_eq_decide];omega
theorem EC(c:UInt8): [32,9,10,13].contains c=zD c:=by
 rw[aN1];simp[zD,or_assoc]
theorem GO(c:UInt8):PC Tryz.prog 87 [.int .u8 c.toNat] (.bool (zD c)):=by
 have hk:=zG [32,9,10,13] c;have hn:=nT [32,9,10,13] c;rw[EC]at hn;refine kG (N:=6) Tryz.func87 rfl rfl zz (by simp[bF.int,bF.str]) (.bool _) ?_
 repeat refine wS ?_
 refine eE (by simp only[kA,seval,aE,qC]<;>with_reducible rfl) z7 ?_
 repeat refine wS ?_
 refine wR ?_;refine eT 1 (by simp only[kA,seval,aE,qC]<;>with_reducible rfl) z7 ?_;refine oP (by simp only[kC,seval,aE,qC]<;>with_reducible rfl) (by simp only[kC,seval,aE,qC]) z7 ZQ (hk _) ?_;refine xF (by simp only[kA,seval,y3,aE,qC]<;>with_reducible rfl) z7 ?_
 repeat refine wS ?_
 refine wT ⟨.inr rfl,_,rfl, ?_⟩;simp only[jN,seval,aE,qC,hn]
 try rfl
theorem TX{s:List UInt8}{i:Nat}(h:i<s.length):yU (s.drop i)=if s[i]=10 then none else if s[i]=34 then some 1 else
  if s[i]=92/\(s.drop (i+1)).head?.getD 10≠10 then(yU (s.drop (i+2))).map (· +2)else(yU (s.drop (i+1))).map (· +1):=by
 rw[aOi h];obtain⟨c,hc⟩:∃c,s[i]=c:=⟨_,rfl⟩;rw[hc]
 by_cases h2:i+1<s.length
 ·have e2:s.drop (i+1)=s[i+1]::s.drop (i+2):=aOi h2;rw[e2,yU];rfl
 ·have e2:s.drop (i+1)= []:=List.drop_eq_nil_of_le z8;have e3:s.drop (i+2)= []:=List.drop_eq_nil_of_le z8;rw[e2,e3,yU]
  by_cases h10:c=10
  ·subst h10;simp[yU]
  ·simp[h10,yU]
def DN(s:List UInt8):Nat×Int:=match xG false (s.drop 1)with|some k=>(k+1,106)|none=>(1+kJ sM (s.drop 1),108)
theorem TR(s:List UInt8)(hs:s.length<=maxLen)(h1:1<=s.length):PC Tryz.prog 96 [.str s] (.tup [aE ((DN s).1:Int),aE (DN s).2]):=by
 have em:maxLen=9223372036854775807:=z7
 have hsc:=BR s hs sM 114 aG4 aIe 1 h1;refine kG (N:=47) Tryz.func96 rfl rfl zz (by simp[bF.int,bF.str]) (.tup _ (by simp[bF.int])) ?_;refine aV qC ?_;refine aV qC ?_
 repeat refine wS ?_
 refine bJ ?_;refine ER (σ:=Nat) (λ(i:Nat)=> [(0, .str s),(4,aE (i:Int))]) ([]) (λ(i:Nat)=> []) (λ(i:Nat)=>s.length-i) (λ(i:Nat)=>1<=i/\i<=s.length/\xG false (s.drop 1)=(yU (s.drop i)).map (· +(i-1))) (1) ([]) ⟨(dJ qC),(dJ qC),trivial⟩ (dJ qC) (⟨z8,h1,by rw[IP];simp⟩) (λ_ _=>by first|exact aNs _| (simp only[aNo];omega)) ?_ ?_
 ·exact λi hg=>⟨by simp only[aN7];exact dN _,by repeat (first|exact jJ.nil|refine jJ.cons (by first|exact Tk.bel _ _|exact cM _|exact cP _|exact bF.int _ _|exact bF.bool _|exact bF.str _|exact bF.nilp|exact bF.nilfn|exact bF.optr _ _ zz|exact cM _|exact cP _|exact cV _ _|assumption) ?_)⟩
 ·intro i hg;obtain⟨hq1,hq2,hq3⟩:=hg;have hcs:i<s.length\/i=s.length:=z8
  rcases hcs with hi|hi
  ·
   have g1:=fS hi;have hd:=TX hi;obtain⟨c,hc⟩:∃c,s[i]=c:=⟨_,rfl⟩;rw[hc]at hd;have g2:s[i]? =some c:=by rw[aNi hi,hc]
   have w1:IntKind.i64.wrap ((i:Int)+1)=((i+1:Nat):Int):=by rw[cL z8 z8];omega
   have f1:((i:Int)<s.length)=True:=by simp;omega
   have f0:((0:Int)<=(i:Int))=True:=zz
   have e10:decide ((c.toNat:Int)=10)=(c==10):=wO c 10 z7;have e34:decide ((c.toNat:Int)=34)=(c==34):=wO c 34 z7;have e92:decide ((c.toNat:Int)=92)=(c==92):=wO c 92 z7;refine tJ (aG y3 y5 y9 qC f1 f0 (aG g1 g2 w1 e10 e34 e92 dU)) ?_;refine gG (aG qC f1 f0 g1 g2 w1 (bD e10 e34 e92 dU)) (λbt14=> ?_) (λbt14=> ?_)
   ·
    have h10:¬c=10:=by simpa using bt14
    rw[if_neg h10]at hd
    repeat refine wS ?_
    refine wK ?_
    repeat refine wS ?_
    refine bJ ?_
    repeat refine wS ?_
    refine bJ ?_;refine aV (aG y5 y9 qC f1 f0 g1 (cF g2 w1 e10 e34 e92 dU)) ?_;refine gG (aG qC f1 f0 g1 g2 w1 (bD e10 e34 e92 dU)) (λbt17=> ?_) (λbt17=> ?_)
    ·
     have h34:c=34:=by simpa using bt17
     have hv:DN s=(i+1,106):=by unfold DN;rw[hq3,hd,if_pos h34];simp;omega
     refine gQ [0,4] (aG qC f1 f0 g1 g2 w1 (bD e10 e34 e92 dU)) ?_;refine aV (aG y3 qC f1 f0 g1 g2 (bL w1 e10 e34 e92 dU)) ?_
     repeat refine wS ?_
     refine wT ⟨.inr rfl,_,(bI (.tmp 2) (.tmp 3) rfl (aM z7) (aM z7)), ?_⟩;simp only[jN,seval,aE,qC,hv]
     try rfl
    ·
     have h34:¬c=34:=by simpa using bt17
     rw[if_neg h34]at hd;have hcd:c=92/\i+1<s.length\/¬c=92\/(c=92/\¬i+1<s.length):=by by_cases h:c=92<;>simp[h]<;>omega
     refine gQ [0,4] (aG qC f1 f0 g1 g2 w1 (bD e10 e34 e92 dU)) ?_;rcases hcd with hk|hk|hk
     ·
      obtain⟨hk1,hk2⟩:=hk;have k92:(c==92)=true:=by simpa using hk1
      have k1:(((i+1:Nat):Int)<s.length)=True:=by simp;omega
      have k0:((0:Int)<=((i+1:Nat):Int))=True:=by simp;omega
      obtain⟨d,hdd⟩:∃d,s[i+1]=d:=⟨_,rfl⟩;have k2:s[i+1]? =some d:=by rw[aNi hk2,hdd]
      have d10:decide ((d.toNat:Int)=10)=(d==10):=wO d 10 z7;have hh:(s.drop (i+1)).head?.getD 10=d:=by rw[aOi hk2,hdd];rfl
      have w2:IntKind.i64.wrap (((i+1:Nat):Int)+1)=((i+2:Nat):Int):=by rw[cL z8 z8];omega
      rw[hh]at hd;refine tJ (aG y3 y5 y9 qC f1 f0 (aG g1 g2 w1 e10 e34 e92 (aG dU k92 k1 k0 k2 d10 w2))) ?_;refine gG (aG qC f1 f0 g1 g2 w1 (aG e10 e34 e92 dU k92 k1 (bD k0 k2 d10 w2))) (λbt24=> ?_) (λbt24=> ?_)
      ·
       have hd10:¬d=10:=by simpa using bt24
       rw[if_pos ⟨hk1,hd10⟩]at hd;refine gQ [0,4] (aG qC f1 f0 g1 g2 w1 (aG e10 e34 e92 dU k92 k1 (bD k0 k2 d10 w2))) ?_;refine aV (aG y3 qC f1 f0 g1 g2 (aG w1 e10 e34 e92 dU k92 (bL k1 k0 k2 d10 w2))) ?_;refine aV (aG y3 qC f1 f0 g1 g2 (aG w1 e10 e34 e92 dU k92 (bL k1 k0 k2 d10 w2))) ?_
       try simp only[bQ,cB]
       exact⟨i+2,_,by show s.length- (i+2)<s.length-i;omega,⟨rfl,rfl,trivial⟩,JQ qC,z8,z8,by rw[hq3,hd,Option.map_map];congr 1;funext x;simp;omega⟩
      ·
       have hd10:d=10:=by simpa using bt24
       rw[if_neg (λq=>q.2 hd10)]at hd
       repeat refine wS ?_
       refine wK ?_;refine gQ [0,4] (aG qC f1 f0 g1 g2 w1 (aG e10 e34 e92 dU k92 k1 (bD k0 k2 d10 w2))) ?_;refine aV (aG y3 qC f1 f0 g1 g2 (aG w1 e10 e34 e92 dU k92 (bL k1 k0 k2 d10 w2))) ?_
       try simp only[bQ,cB]
       exact⟨i+1,_,by show s.length- (i+1)<s.length-i;omega,⟨rfl,rfl,trivial⟩,JQ qC,z8,z8,by rw[hq3,hd,Option.map_map];congr 1;funext x;simp;omega⟩
     ·
      have k92:(c==92)=false:=by simpa using hk
      rw[if_neg (λq=>hk q.1)]at hd
      repeat refine wS ?_
      refine wR ?_;refine eN ?_;refine yL 15 (aG y3 y5 y9 qC f1 f0 (aG g1 g2 w1 e10 e34 e92 (aS dU k92))) ?_;refine oO (aG qC f1 f0 g1 g2 w1 (bL e10 e34 e92 dU k92)) ?_;refine oO (aG qC f1 f0 g1 g2 w1 (bL e10 e34 e92 dU k92)) ?_;refine DM (aG qC f1 f0 g1 g2 w1 (bL e10 e34 e92 dU k92)) ?_;refine pJ (aG qC f1 f0 g1 g2 w1 (bL e10 e34 e92 dU k92)) ?_
      repeat refine wS ?_
      refine wK ?_;refine gQ [0,4] (aG qC f1 f0 g1 g2 w1 (bL e10 e34 e92 dU k92)) ?_;refine aV (aG y3 qC f1 f0 g1 g2 (cF w1 e10 e34 e92 dU k92)) ?_
      try simp only[bQ,cB]
      exact⟨i+1,_,by show s.length- (i+1)<s.length-i;omega,⟨rfl,rfl,trivial⟩,JQ qC,z8,z8,by rw[hq3,hd,Option.map_map];congr 1;funext x;simp;omega⟩
     ·
      obtain⟨hk1,hk2⟩:=hk;have k92:(c==92)=true:=by simpa using hk1
      have k1:(((i+1:Nat):Int)<s.length)=False:=by simp;omega
      have hh:s.drop (i+1)= []:=List.drop_eq_nil_of_le z8;rw[if_neg (by rw[hh];simp)]at hd
      repeat refine wS ?_
      refine wR ?_;refine eN ?_;refine yL 15 (aG y3 y5 y9 qC f1 f0 (aG g1 g2 w1 e10 e34 e92 (bD dU k92 k1 decide_false))) ?_;refine oO (aG qC f1 f0 g1 g2 w1 (aG e10 e34 e92 dU k92 k1 decide_false)) ?_;refine oO (aG qC f1 f0 g1 g2 w1 (aG e10 e34 e92 dU k92 k1 decide_false)) ?_;refine DM (aG qC f1 f0 g1 g2 w1 (aG e10 e34 e92 dU k92 k1 decide_false)) ?_;refine pJ (aG qC f1 f0 g1 g2 w1 (aG e10 e34 e92 dU k92 k1 decide_false)) ?_
      repeat refine wS ?_
      refine wK ?_;refine gQ [0,4] (aG qC f1 f0 g1 g2 w1 (aG e10 e34 e92 dU k92 k1 decide_false)) ?_;refine aV (aG y3 qC f1 f0 g1 g2 (aG w1 e10 e34 e92 dU k92 (aS k1 decide_false))) ?_
      try simp only[bQ,cB]
      exact⟨i+1,_,by show s.length- (i+1)<s.length-i;omega,⟨rfl,rfl,trivial⟩,JQ qC,z8,z8,by rw[hq3,hd,Option.map_map];congr 1;funext x;simp;omega⟩
   ·
    have h10:c=10:=by simpa using bt14
    have hv:DN s=(1+kJ sM (s.drop 1),108):=by unfold DN;rw[hq3,hd,if_pos h10];rfl
    repeat refine wS ?_
    refine dO ?_;simp only[bQ,cB,reduceIte,Nat.reduceEqDiff,aOf,if_true,if_false];refine eA 1 (aG qC f1 f0 g1 g2 w1 (bD e10 e34 e92 dU)) ?_;refine qT (aG qC f1 f0 g1 g2 w1 (bD e10 e34 e92 dU)) GW (hsc _) ?_;refine bH (aG qC f1 f0 g1 g2 w1 (bD e10 e34 e92 dU)) ?_
    repeat refine wS ?_
    refine wT ⟨.inr rfl,_,(bI (.tmp 2) (.tmp 3) rfl (aM z7) (aM z7)), ?_⟩;simp only[jN,seval,aE,qC,hv]
    try rfl
  ·
   have f1:((i:Int)<s.length)=False:=by simp;omega
   have hv:DN s=(1+kJ sM (s.drop 1),108):=by unfold DN;rw[hq3,hi,List.drop_length];rfl
   repeat refine wS ?_
   refine wR ?_;refine eN ?_;refine yL 7 (bL y3 y9 qC f1 decide_false) ?_;refine oO (bR qC f1 decide_false) ?_;refine oO (bR qC f1 decide_false) ?_;refine DM (bR qC f1 decide_false) ?_;refine pJ (bR qC f1 decide_false) ?_
   repeat refine wS ?_
   refine dO ?_;simp only[bQ,cB,reduceIte,Nat.reduceEqDiff,aOf,if_true,if_false];refine eA 1 (bR qC f1 decide_false) ?_;refine qT (bR qC f1 decide_false) GW (hsc _) ?_;refine bH (bR qC f1 decide_false) ?_
   repeat refine wS ?_
   refine wT ⟨.inr rfl,_,(bI (.tmp 2) (.tmp 3) rfl (aM z7) (aM z7)), ?_⟩;simp only[jN,seval,aE,qC,hv]
   try rfl
theorem aK4{H H':aH}(hG:ML G0 H)(h:H'[0]? =(H++aNb 0 AObj.unborn)[0]?):ML G0 H':=λk o hk=>by
 cases k with
 |zero=>rw[h];simpa using hG 0 o hk
 |succ k=>simp[G0,GC]at hk
theorem EH(s:List UInt8)(a b:UInt8):Lib.hasPrefix s [a,b]=decide (s.take 2= [a,b]):=by
 unfold Lib.hasPrefix
 match s with
 | []=>rfl
 | [x]=>simp[List.isPrefixOf]
 |x::y::r=>
  rw[aN1];simp[List.isPrefixOf];constructor<;>rintro⟨h1,h2⟩<;>exact⟨h1.symm,h2.symm⟩
theorem OJ(c:UInt8)(r:List UInt8)(h:c=34):DN (c::r)=match xG false r with|some k=>(k+1,106)|none=>(kJ sM (c::r),108):=by
 subst h;unfold DN;simp only[List.drop_succ_cons,aOh];cases q:xG false r with
 |none=>simp[kJ,sM,Nat.add_comm]
 |some k=>rfl
theorem aBy(c:UInt8)(r:List UInt8)(hs:(c::r).length<=maxLen):PG G0 Tryz.prog 72 [.str (c::r)] (.tup [aE ((nM (c::r)).1:Int),aE (nM (c::r)).2]):=by
 have em:maxLen=9223372036854775807:=z7
 obtain⟨s,hse⟩:∃s,c::r=s:=⟨_,rfl⟩;have g2:s[0]? =some c:=by rw[<-hse];rfl
 have g1:(0<(s.length:Int))=True:=by rw[<-hse];simp
 have hst:=λh=>OJ c r h;have h1:1<=s.length:=by rw[<-hse];simp
 rw[hse]at hs hst⊢;have hb:=VR (s:=s) (by rw[<-hse];simp);have k1:=BR s hs zD 87 aEn GO 0 z8;rw[aNn,aOh]at k1;have k2:=BR s hs sM 90 aH0 aEy 0 z8;rw[aNn,aOh]at k2;have k3:=BR s hs sI 92 aHn aG2 0 z8;rw[aNn,aOh]at k3;have k4:=BR s hs vJ 93 WG xS 0 z8;rw[aNn,aOh]at k4;have hp:=MC s [47,47];rw[EH]at hp;have hss:=TR s hs h1;have ho:aFp= [40,41,123,125,91,93,60,62,44,59,58,46,61,43,45,42,47,33,38,124]:=by kernel_rfl
 have hib:=zG [40,41,123,125,91,93,60,62,44,59,58,46,61,43,45,42,47,33,38,124] c;have hin:=nT [40,41,123,125,91,93,60,62,44,59,58,46,61,43,45,42,47,33,38,124] c;have hfd:nM s=if zD c then(kJ zD s,101)else if s.take 2= [47,47]then(kJ sM s,102)else if IR c then(if kwL.contains (s.take (kJ sI s))then(kJ sI s,104)else(kJ sI s,103))else if vJ c then(kJ vJ s,105)else if c=34 then DN s else if s.length>1/\aAx.contains (s.take 2)=true then(2,107)else if aFp.contains c then(1,107)else(1,108):=by
  by_cases h:c=34
  ·rw[hst h,<-hse];rfl
  ·rw[<-hse];unfold nM;simp only[h,if_false]
 rw[ho]at hfd;refine QQ (N:=56) Tryz.func72 rfl rfl zz (.tup _ (by simp[bF.int])) λH hG hb'=> ?_;refine aV qC ?_;refine aV (bD y9 qC g1 g2) ?_
 repeat refine wS ?_
 refine bJ ?_;refine eA 1 qC ?_;refine qT qC aEn (GO c _) ?_;refine bH qC ?_;refine gG qC (λbt8=> ?_) (λbt8=> ?_)
 ·
  rw[hfd,if_pos bt8];refine eA 1 qC ?_;refine qT qC GW (k1 _) ?_;refine bH qC ?_
  repeat refine wS ?_
  refine wT ⟨.inr rfl,_,_,(bI (.tmp 2) (.tmp 3) rfl (aM z7) (aM z7)), ?_,sP⟩;simp only[jN,seval,aE,qC]
  try rfl
 ·
  rw[if_neg (by rw[bt8];simp)]at hfd;refine eA 1 qC ?_;refine qT qC aHy (hp _) ?_;refine bH qC ?_;refine gG qC (λbt13=> ?_) (λbt13=> ?_)
  ·
   rw[hfd,if_pos (of_decide_eq_true bt13)];refine eA 1 qC ?_;refine qT qC GW (k2 _) ?_;refine bH qC ?_
   repeat refine wS ?_
   refine wT ⟨.inr rfl,_,_,(bI (.tmp 2) (.tmp 3) rfl (aM z7) (aM z7)), ?_,sP⟩;simp only[jN,seval,aE,qC]
   try rfl
  ·
   rw[if_neg (of_decide_eq_false bt13)]at hfd;refine eA 1 qC ?_;refine qT qC aDq (CQ c _) ?_;refine bH qC ?_;refine gG qC (λbt18=> ?_) (λbt18=> ?_)
   ·
    rw[if_pos bt18]at hfd;obtain⟨n,hn⟩:∃n,kJ sI s=n:=⟨_,rfl⟩;have hnl:=IV sI s;rw[hn]at hnl k3 hfd;have h3:((0:Int)<=n/\(n:Int)<=s.length)=True:=by simp;omega
    have h4:(n<=s.length)=True:=by simp;omega
    have h5:((n:Int)<=(s.length:Int))=True:=by simp;omega
    have h6:((0:Int)<=(n:Int))=True:=zz
    refine eA 1 qC ?_;refine qT qC GW (k3 _) ?_;refine bH qC ?_;refine gQ [0,5] qC ?_
    repeat refine wS ?_
    refine kP 0 (by kernel_rfl) ?_;refine rE (bm:= [0,0,0,6,15]) ([0]) (by kernel_rfl) (DT (aG qC jS h3 h4 h5 h6 @BP)) (bP (aG qC jS h3 h4 h5 h6 @BP)) z7 aIl (λH' hr=>OF H' (aK4 hG (hr 0 zz))) (XO (aG qC jS h3 h4 h5 h6 @BP)) ?_;refine yQ (bm:= [0,0,0,6,15]) 3 (fresh:=(H.length)) (by kernel_rfl) (EY (aG y9 qC jS h3 h4 h5 (aS h6 @BP))) z7 z7 ?_;refine rE (bm:= [0,0,0,6,15]) ([]) (by kernel_rfl) (DT (aG qC jS h3 h4 h5 h6 @BP)) (bP (aG qC jS h3 h4 h5 h6 @BP)) z7 aEm (λH' _=>QP kwL (s.take n) z7 H') (XO (aG qC jS h3 h4 h5 h6 @BP)) ?_;refine wM ?_;refine gG qC (λbt27=> ?_) (λbt27=> ?_)
    ·
     rw[if_pos bt27]at hfd;rw[hfd];refine aV qC ?_
     repeat refine wS ?_
     refine wT ⟨.inr rfl,_,_,(bI (.tmp 2) (.tmp 3) rfl (aM z7) (aM z7)), ?_,sP⟩;simp only[jN,seval,aE,qC]
     try rfl
    ·
     rw[if_neg (by rw[bt27];simp)]at hfd;rw[hfd]
     repeat refine wS ?_
     refine wK ?_;refine aV qC ?_
     repeat refine wS ?_
     refine wT ⟨.inr rfl,_,_,(bI (.tmp 2) (.tmp 3) rfl (aM z7) (aM z7)), ?_,sP⟩;simp only[jN,seval,aE,qC]
     try rfl
   ·
    rw[if_neg (by rw[bt18];simp)]at hfd;refine eA 1 qC ?_;refine qT qC WG (xS c _) ?_;refine bH qC ?_;refine gG qC (λbt30=> ?_) (λbt30=> ?_)
    ·
     rw[hfd,if_pos bt30];refine gQ [0] qC ?_;refine eA 1 qC ?_;refine qT qC GW (k4 _) ?_;refine bH qC ?_
     repeat refine wS ?_
     refine wT ⟨.inr rfl,_,_,(bI (.tmp 2) (.tmp 3) rfl (aM z7) (aM z7)), ?_,sP⟩;simp only[jN,seval,aE,qC]
     try rfl
    ·
     rw[if_neg (by rw[bt30];simp)]at hfd;have e34:decide ((c.toNat:Int)=34)=(c==34):=wO c 34 z7;refine gQ [0,4] qC ?_;refine aV (bR y5 qC e34) ?_;refine gG qC (λbt35=> ?_) (λbt35=> ?_)
     ·
      rw[hfd,if_pos (by simpa using bt35)];refine eA 1 qC ?_;refine qT qC aJ0 (hss _) ?_;refine bH qC ?_
      repeat refine wS ?_
      refine wT ⟨.inr rfl,_,_,(bI (.tmp 2) (.tmp 3) rfl (aM z7) (aM z7)), ?_,sP⟩;simp only[jN,seval,aE,qC]
      try rfl
     ·
      rw[if_neg (by simpa using bt35)]at hfd;have h2:s.length>1\/¬s.length>1:=z8
      rcases h2 with h2|h2
      ·
       have l2:(1<(s.length:Int))=True:=by simp;omega
       have l3:(2<=(s.length:Int))=True:=by simp;omega
       repeat refine wS ?_
       refine eJ (by kernel_rfl) ?_;refine lY 4 (aG y3 y9 qC l2 l3 dU @BP) ?_;refine CE (bL qC l2 l3 dU @BP) aJc (λhc=>aHr _ hG) ?_;refine lY 2 (aG y9 jS qC l2 l3 dU @BP) ?_;refine CE (bL qC l2 l3 dU @BP) aEm (λhc=>QP aAx (s.take 2) z7 _) ?_;refine iI (bL qC l2 l3 dU @BP) ?_;refine gG (bL qC l2 l3 dU @BP) (λbt42=> ?_) (λbt42=> ?_)
       ·
        rw[hfd,if_pos ⟨h2,bt42⟩];refine aV (bL qC l2 l3 dU @BP) ?_
        repeat refine wS ?_
        refine wT ⟨.inr rfl,_,_,(bI (.tmp 2) (.tmp 3) rfl (aM z7) (aM z7)), ?_,sP⟩;simp only[jN,seval,aE,qC]
        try rfl
       ·
        rw[if_neg (by rw[bt42];simp)]at hfd;refine eA 1 (cF qC l2 l3 dU @BP hin) ?_;refine qT (cF qC l2 l3 dU @BP hin) ZQ (hib _) ?_;refine bH (aG y3 qC l2 l3 dU @BP hin) ?_;refine gG (bL qC l2 l3 dU @BP) (λbt52=> ?_) (λbt52=> ?_)
        ·
         rw[hfd,if_pos bt52];refine gQ [] (bL qC l2 l3 dU @BP) ?_;refine aV (bL qC l2 l3 dU @BP) ?_
         repeat refine wS ?_
         refine wT ⟨.inr rfl,_,_,(bI (.tmp 2) (.tmp 3) rfl (aM z7) (aM z7)), ?_,sP⟩;simp only[jN,seval,aE,qC]
         try rfl
        ·
         rw[hfd,if_neg (by rw[bt52];simp)]
         repeat refine wS ?_
         refine wK ?_;refine gQ [] (bL qC l2 l3 dU @BP) ?_;refine aV (bL qC l2 l3 dU @BP) ?_
         repeat refine wS ?_
         refine wT ⟨.inr rfl,_,_,(bI (.tmp 2) (.tmp 3) rfl (aM z7) (aM z7)), ?_,sP⟩;simp only[jN,seval,aE,qC]
         try rfl
      ·
       have l2:(1<(s.length:Int))=False:=by simp;omega
       rw[if_neg (λq=>h2 q.1)]at hfd
       repeat refine wS ?_
       refine eJ (by kernel_rfl) ?_;refine lY 4 (bL y3 y9 qC l2 decide_false) ?_;refine pP (bR qC l2 decide_false) ?_;refine pP (bR qC l2 decide_false) ?_;refine pP (bR qC l2 decide_false) ?_;refine pP (bR qC l2 decide_false) ?_;refine iI (bR qC l2 decide_false) ?_;refine pJ (bR qC l2 decide_false) ?_;refine eA 1 (bD qC l2 decide_false hin) ?_;refine qT (bD qC l2 decide_false hin) ZQ (hib _) ?_;refine bH (bL y3 qC l2 decide_false hin) ?_;refine gG (bR qC l2 decide_false) (λbt52=> ?_) (λbt52=> ?_)
       ·
        rw[hfd,if_pos bt52];refine gQ [] (bR qC l2 decide_false) ?_;refine aV (bR qC l2 decide_false) ?_
        repeat refine wS ?_
        refine wT ⟨.inr rfl,_,_,(bI (.tmp 2) (.tmp 3) rfl (aM z7) (aM z7)), ?_,sP⟩;simp only[jN,seval,aE,qC]
        try rfl
       ·
        rw[hfd,if_neg (by rw[bt52];simp)]
        repeat refine wS ?_
        refine wK ?_;refine gQ [] (bR qC l2 decide_false) ?_;refine aV (bR qC l2 decide_false) ?_
        repeat refine wS ?_
        refine wT ⟨.inr rfl,_,_,(bI (.tmp 2) (.tmp 3) rfl (aM z7) (aM z7)), ?_,sP⟩;simp only[jN,seval,aE,qC]
        try rfl
def GV(s:List UInt8):Bool:= !(decide ((s.length:Int)=0)||decide ((s.length:Int)>30))&&(decide (((nM s).1:Int)=s.length)&&decide ((nM s).2=103))
theorem aCz{s:List UInt8}(hs:s.length<=maxLen)(h:s≠ []):PG G0 Tryz.prog 72 [.str s] (.tup [aE ((nM s).1:Int),aE (nM s).2]):=by
 cases s with
 |nil=>exact absurd rfl h
 |cons c r=>exact aBy c r hs
theorem aGw(s:List UInt8)(hs:s.length<=maxLen):PG G0 Tryz.prog 47 [.str s] (.bool (GV s)):=by
 refine QQ (N:=26) Tryz.func47 rfl rfl zz (.bool _) λH hG hb'=> ?_;refine aV qC ?_;refine tJ (bR y3 y9 qC) ?_;refine gG qC (λbt12=> ?_) (λbt12=> ?_)
 ·
  have hv:GV s=false:=by unfold GV;rw[bt12];rfl
  refine aV qC ?_
  repeat refine wS ?_
  refine wT ⟨.inr rfl,_,_,rfl, ?_,sP⟩;simp only[jN,seval,aE,qC,hv]
  try rfl
 ·
  have hv:GV s=(decide (((nM s).1:Int)=s.length)&&decide ((nM s).2=103)):=by unfold GV;rw[bt12];rfl
  have hne:s≠ []:=by rintro rfl;simp at bt12
  have hf:=aCz hs hne
  repeat refine wS ?_
  refine wK ?_;refine eA 1 qC ?_;refine qT qC aHp (hf _ hG) ?_;refine bH qC ?_;refine gQ [0,3,4] qC ?_;refine tJ (bR y3 y9 qC) ?_
  repeat refine wS ?_
  refine wT ⟨.inr rfl,_,_,rfl, ?_,sP⟩;simp only[jN,seval,aE,qC,hv]
  try rfl
structure Md where
 name:List UInt8
 src:List UInt8
def Md.enc(t:Md):PV:=.agg [.str t.name, .str t.src]
theorem Md.enc_eq(t:Md):t.enc= .agg [.str t.name, .str t.src]:=rfl
theorem Md.enc_cells(t:Md):t.enc.cells= [.str t.name, .str t.src]:=rfl
theorem Md.eta(t:Md):Md.mk t.name t.src=t:=rfl
theorem Md.enc_drop1(t:Md):t.enc.drop1=t.enc:=by rw[Md.enc_eq];rfl
theorem Md.enc_drop0(t:Md):t.enc.drop0=t.enc:=by rw[Md.enc_eq];rfl
theorem Md.enc_len(t:Md):t.enc.cells.length=2:=by rw[Md.enc_cells];rfl
theorem Md.enc_junk(t:Md):t.enc.isJunk=false:=by rw[Md.enc_eq];rfl
theorem Md.bel(n:Nat)(t:Md):bF n t.enc:=.agg _ (by
 intro c hc;simp only[aN2,aOc,or_false]at hc;rcases hc with rfl|rfl
 ·exact .str _
 ·exact .str _)
theorem fP(n:Nat)(us:List Md):bF n (.slice (us.map Md.enc) .none):=.slice _ _ (λe he c hc=>by
 obtain⟨b,_,rfl⟩:=aNy.1 he;have:=Md.bel n b;rw[Md.enc_eq]at this hc;cases this with|agg _ h=>exact h c hc) zz
theorem MdS:(∀t:Md,t.enc.cells= [.str t.name, .str t.src])/\(∀t:Md,t.enc.isJunk=false)/\(∀t:Md,t.enc.drop1=t.enc)/\(∀t:Md,t.enc.drop0=t.enc)/\(∀(t:Md) (b:Nat),t.enc.fits ⟨true,2,b⟩=true):=
 ⟨Md.enc_cells,Md.enc_junk,Md.enc_drop1,Md.enc_drop0,λt b=>by rw[Md.enc_eq];rfl⟩
theorem MdF:(∀(name:List UInt8) (src:List UInt8),PV.agg [.str name, .str src]=(Md.mk name src).enc)/\
  (∀t:Md,Md.mk t.name t.src=t)/\
  (∀(name:List UInt8) (src:List UInt8),(Md.mk name src).name=name)/\
  (∀(name:List UInt8) (src:List UInt8),(Md.mk name src).src=src):=
 ⟨λname src=>(Md.enc_eq (Md.mk name src)).symm,Md.eta,λ_ _=>rfl,λ_ _=>rfl⟩
def Md.W(t:Md):Prop:=t.name.length<=2^47/\t.src.length<=2^47
structure Rq where
 cl:Int
 id:Int
 q:Int
 arg:Int
 name:List UInt8
def Rq.enc(t:Rq):PV:=.agg [.int .i64 t.cl, .int .i64 t.id, .int .i64 t.q, .int .i64 t.arg, .str t.name]
theorem Rq.enc_eq(t:Rq):t.enc= .agg [.int .i64 t.cl, .int .i64 t.id, .int .i64 t.q, .int .i64 t.arg, .str t.name]:=rfl
theorem Rq.enc_cells(t:Rq):t.enc.cells= [.int .i64 t.cl, .int .i64 t.id, .int .i64 t.q, .int .i64 t.arg, .str t.name]:=rfl
theorem Rq.eta(t:Rq):Rq.mk t.cl t.id t.q t.arg t.name=t:=rfl
theorem Rq.enc_drop1(t:Rq):t.enc.drop1=t.enc:=by rw[Rq.enc_eq];rfl
theorem Rq.enc_drop0(t:Rq):t.enc.drop0=t.enc:=by rw[Rq.enc_eq];rfl
theorem Rq.enc_len(t:Rq):t.enc.cells.length=5:=by rw[Rq.enc_cells];rfl
theorem Rq.enc_junk(t:Rq):t.enc.isJunk=false:=by rw[Rq.enc_eq];rfl
theorem Rq.bel(n:Nat)(t:Rq):bF n t.enc:=.agg _ (by
 intro c hc;simp only[aN2,aOc,or_false]at hc;rcases hc with rfl|rfl|rfl|rfl|rfl
 ·exact .int _ _
 ·exact .int _ _
 ·exact .int _ _
 ·exact .int _ _
 ·exact .str _)
theorem gK(n:Nat)(us:List Rq):bF n (.slice (us.map Rq.enc) .none):=.slice _ _ (λe he c hc=>by
 obtain⟨b,_,rfl⟩:=aNy.1 he;have:=Rq.bel n b;rw[Rq.enc_eq]at this hc;cases this with|agg _ h=>exact h c hc) zz
theorem RqS:(∀t:Rq,t.enc.cells= [.int .i64 t.cl, .int .i64 t.id, .int .i64 t.q, .int .i64 t.arg, .str t.name])/\(∀t:Rq,t.enc.isJunk=false)/\(∀t:Rq,t.enc.drop1=t.enc)/\(∀t:Rq,t.enc.drop0=t.enc)/\(∀(t:Rq) (b:Nat),t.enc.fits ⟨true,5,b⟩=true):=
 ⟨Rq.enc_cells,Rq.enc_junk,Rq.enc_drop1,Rq.enc_drop0,λt b=>by rw[Rq.enc_eq];rfl⟩
theorem RqF:(∀(cl:Int) (id:Int) (q:Int) (arg:Int) (name:List UInt8),PV.agg [.int .i64 cl, .int .i64 id, .int .i64 q, .int .i64 arg, .str name]=(Rq.mk cl id q arg name).enc)/\
  (∀t:Rq,Rq.mk t.cl t.id t.q t.arg t.name=t)/\
  (∀(cl:Int) (id:Int) (q:Int) (arg:Int) (name:List UInt8),(Rq.mk cl id q arg name).cl=cl)/\
  (∀(cl:Int) (id:Int) (q:Int) (arg:Int) (name:List UInt8),(Rq.mk cl id q arg name).id=id)/\
  (∀(cl:Int) (id:Int) (q:Int) (arg:Int) (name:List UInt8),(Rq.mk cl id q arg name).q=q)/\
  (∀(cl:Int) (id:Int) (q:Int) (arg:Int) (name:List UInt8),(Rq.mk cl id q arg name).arg=arg)/\
  (∀(cl:Int) (id:Int) (q:Int) (arg:Int) (name:List UInt8),(Rq.mk cl id q arg name).name=name):=
 ⟨λcl id q arg name=>(Rq.enc_eq (Rq.mk cl id q arg name)).symm,Rq.eta,λ_ _ _ _ _=>rfl,λ_ _ _ _ _=>rfl,λ_ _ _ _ _=>rfl,λ_ _ _ _ _=>rfl,λ_ _ _ _ _=>rfl⟩
def Rq.W(t:Rq):Prop:=t.name.length<=2^47
structure Rs where
 cl:Int
 id:Int
 err:Int
 rev:Int
 nums:List (Int)
 text:List UInt8
def Rs.enc(t:Rs):PV:=.agg [.int .i64 t.cl, .int .i64 t.id, .int .i64 t.err, .int .i64 t.rev, .slice (t.nums.map aE) .none, .str t.text]
theorem Rs.enc_eq(t:Rs):t.enc= .agg [.int .i64 t.cl, .int .i64 t.id, .int .i64 t.err, .int .i64 t.rev, .slice (t.nums.map aE) .none, .str t.text]:=rfl
theorem Rs.enc_cells(t:Rs):t.enc.cells= [.int .i64 t.cl, .int .i64 t.id, .int .i64 t.err, .int .i64 t.rev, .slice (t.nums.map aE) .none, .str t.text]:=rfl
theorem Rs.eta(t:Rs):Rs.mk t.cl t.id t.err t.rev t.nums t.text=t:=rfl
theorem Rs.enc_drop1(t:Rs):t.enc.drop1=t.enc:=by rw[Rs.enc_eq];rfl
theorem Rs.enc_drop0(t:Rs):t.enc.drop0=t.enc:=by rw[Rs.enc_eq];rfl
theorem Rs.enc_len(t:Rs):t.enc.cells.length=6:=by rw[Rs.enc_cells];rfl
theorem Rs.enc_junk(t:Rs):t.enc.isJunk=false:=by rw[Rs.enc_eq];rfl
theorem Rs.bel(n:Nat)(t:Rs):bF n t.enc:=.agg _ (by
 intro c hc;simp only[aN2,aOc,or_false]at hc;rcases hc with rfl|rfl|rfl|rfl|rfl|rfl
 ·exact .int _ _
 ·exact .int _ _
 ·exact .int _ _
 ·exact .int _ _
 ·exact bM _ _
 ·exact .str _)
theorem jV(n:Nat)(us:List Rs):bF n (.slice (us.map Rs.enc) .none):=.slice _ _ (λe he c hc=>by
 obtain⟨b,_,rfl⟩:=aNy.1 he;have:=Rs.bel n b;rw[Rs.enc_eq]at this hc;cases this with|agg _ h=>exact h c hc) zz
theorem RsS:(∀t:Rs,t.enc.cells= [.int .i64 t.cl, .int .i64 t.id, .int .i64 t.err, .int .i64 t.rev, .slice (t.nums.map aE) .none, .str t.text])/\(∀t:Rs,t.enc.isJunk=false)/\(∀t:Rs,t.enc.drop1=t.enc)/\(∀t:Rs,t.enc.drop0=t.enc)/\(∀(t:Rs) (b:Nat),t.enc.fits ⟨true,6,b⟩=true):=
 ⟨Rs.enc_cells,Rs.enc_junk,Rs.enc_drop1,Rs.enc_drop0,λt b=>by rw[Rs.enc_eq];rfl⟩
theorem RsF:(∀(cl:Int) (id:Int) (err:Int) (rev:Int) (nums:List (Int)) (text:List UInt8),PV.agg [.int .i64 cl, .int .i64 id, .int .i64 err, .int .i64 rev, .slice (nums.map aE) .none, .str text]=(Rs.mk cl id err rev nums text).enc)/\
  (∀(cl:Int) (id:Int) (err:Int) (rev:Int) (text:List UInt8),PV.agg [.int .i64 cl, .int .i64 id, .int .i64 err, .int .i64 rev, .slice [] .none, .str text]=(Rs.mk cl id err rev [] text).enc)/\
  (∀t:Rs,Rs.mk t.cl t.id t.err t.rev t.nums t.text=t)/\
  (∀(cl:Int) (id:Int) (err:Int) (rev:Int) (nums:List (Int)) (text:List UInt8),(Rs.mk cl id err rev nums text).cl=cl)/\
  (∀(cl:Int) (id:Int) (err:Int) (rev:Int) (nums:List (Int)) (text:List UInt8),(Rs.mk cl id err rev nums text).id=id)/\
  (∀(cl:Int) (id:Int) (err:Int) (rev:Int) (nums:List (Int)) (text:List UInt8),(Rs.mk cl id err rev nums text).err=err)/\
  (∀(cl:Int) (id:Int) (err:Int) (rev:Int) (nums:List (Int)) (text:List UInt8),(Rs.mk cl id err rev nums text).rev=rev)/\
  (∀(cl:Int) (id:Int) (err:Int) (rev:Int) (nums:List (Int)) (text:List UInt8),(Rs.mk cl id err rev nums text).nums=nums)/\
  (∀(cl:Int) (id:Int) (err:Int) (rev:Int) (nums:List (Int)) (text:List UInt8),(Rs.mk cl id err rev nums text).text=text):=
 ⟨λcl id err rev nums text=>(Rs.enc_eq (Rs.mk cl id err rev nums text)).symm,λcl id err rev text=>(Rs.enc_eq (Rs.mk cl id err rev [] text)).symm,Rs.eta,λ_ _ _ _ _ _=>rfl,λ_ _ _ _ _ _=>rfl,λ_ _ _ _ _ _=>rfl,λ_ _ _ _ _ _=>rfl,λ_ _ _ _ _ _=>rfl,λ_ _ _ _ _ _=>rfl⟩
def Rs.W(t:Rs):Prop:=t.nums.length*8<=2^47/\t.text.length<=2^47
structure Te where
 st:Int
 en:Int
 text:List UInt8
def Te.enc(t:Te):PV:=.agg [.int .i64 t.st, .int .i64 t.en, .str t.text]
theorem Te.enc_eq(t:Te):t.enc= .agg [.int .i64 t.st, .int .i64 t.en, .str t.text]:=rfl
theorem Te.enc_cells(t:Te):t.enc.cells= [.int .i64 t.st, .int .i64 t.en, .str t.text]:=rfl
theorem Te.eta(t:Te):Te.mk t.st t.en t.text=t:=rfl
theorem Te.enc_drop1(t:Te):t.enc.drop1=t.enc:=by rw[Te.enc_eq];rfl
theorem Te.enc_drop0(t:Te):t.enc.drop0=t.enc:=by rw[Te.enc_eq];rfl
theorem Te.enc_len(t:Te):t.enc.cells.length=3:=by rw[Te.enc_cells];rfl
theorem Te.enc_junk(t:Te):t.enc.isJunk=false:=by rw[Te.enc_eq];rfl
theorem Te.bel(n:Nat)(t:Te):bF n t.enc:=.agg _ (by
 intro c hc;simp only[aN2,aOc,or_false]at hc;rcases hc with rfl|rfl|rfl
 ·exact .int _ _
 ·exact .int _ _
 ·exact .str _)
theorem jQ(n:Nat)(us:List Te):bF n (.slice (us.map Te.enc) .none):=.slice _ _ (λe he c hc=>by
 obtain⟨b,_,rfl⟩:=aNy.1 he;have:=Te.bel n b;rw[Te.enc_eq]at this hc;cases this with|agg _ h=>exact h c hc) zz
theorem TeS:(∀t:Te,t.enc.cells= [.int .i64 t.st, .int .i64 t.en, .str t.text])/\(∀t:Te,t.enc.isJunk=false)/\(∀t:Te,t.enc.drop1=t.enc)/\(∀t:Te,t.enc.drop0=t.enc)/\(∀(t:Te) (b:Nat),t.enc.fits ⟨true,3,b⟩=true):=
 ⟨Te.enc_cells,Te.enc_junk,Te.enc_drop1,Te.enc_drop0,λt b=>by rw[Te.enc_eq];rfl⟩
theorem TeF:(∀(st:Int) (en:Int) (text:List UInt8),PV.agg [.int .i64 st, .int .i64 en, .str text]=(Te.mk st en text).enc)/\
  (∀t:Te,Te.mk t.st t.en t.text=t)/\
  (∀(st:Int) (en:Int) (text:List UInt8),(Te.mk st en text).st=st)/\
  (∀(st:Int) (en:Int) (text:List UInt8),(Te.mk st en text).en=en)/\
  (∀(st:Int) (en:Int) (text:List UInt8),(Te.mk st en text).text=text):=
 ⟨λst en text=>(Te.enc_eq (Te.mk st en text)).symm,Te.eta,λ_ _ _=>rfl,λ_ _ _=>rfl,λ_ _ _=>rfl⟩
def Te.W(t:Te):Prop:=t.text.length<=2^47
structure Ev where
 kind:Int
 n:Int
 ver:Int
 name:List UInt8
 text:List UInt8
 edits:List (Te)
 req:Rq
def Ev.enc(t:Ev):PV:=.agg [.int .i64 t.kind, .int .i64 t.n, .int .i64 t.ver, .str t.name, .str t.text, .slice (t.edits.map Te.enc) .none, .int .i64 t.req.cl, .int .i64 t.req.id, .int .i64 t.req.q, .int .i64 t.req.arg, .str t.req.name]
theorem Ev.enc_eq(t:Ev):t.enc= .agg [.int .i64 t.kind, .int .i64 t.n, .int .i64 t.ver, .str t.name, .str t.text, .slice (t.edits.map Te.enc) .none, .int .i64 t.req.cl, .int .i64 t.req.id, .int .i64 t.req.q, .int .i64 t.req.arg, .str t.req.name]:=rfl
theorem Ev.enc_cells(t:Ev):t.enc.cells= [.int .i64 t.kind, .int .i64 t.n, .int .i64 t.ver, .str t.name, .str t.text, .slice (t.edits.map Te.enc) .none, .int .i64 t.req.cl, .int .i64 t.req.id, .int .i64 t.req.q, .int .i64 t.req.arg, .str t.req.name]:=rfl
theorem Ev.eta(t:Ev):Ev.mk t.kind t.n t.ver t.name t.text t.edits t.req=t:=rfl
theorem Ev.enc_drop1(t:Ev):t.enc.drop1=t.enc:=by rw[Ev.enc_eq];rfl
theorem Ev.enc_drop0(t:Ev):t.enc.drop0=t.enc:=by rw[Ev.enc_eq];rfl
theorem Ev.enc_len(t:Ev):t.enc.cells.length=11:=by rw[Ev.enc_cells];rfl
theorem Ev.enc_junk(t:Ev):t.enc.isJunk=false:=by rw[Ev.enc_eq];rfl
theorem Ev.bel(n:Nat)(t:Ev):bF n t.enc:=.agg _ (by
 intro c hc;simp only[aN2,aOc,or_false]at hc;rcases hc with rfl|rfl|rfl|rfl|rfl|rfl|rfl|rfl|rfl|rfl|rfl
 ·exact .int _ _
 ·exact .int _ _
 ·exact .int _ _
 ·exact .str _
 ·exact .str _
 ·exact jQ _ _
 ·exact .int _ _
 ·exact .int _ _
 ·exact .int _ _
 ·exact .int _ _
 ·exact .str _)
theorem EvS:(∀t:Ev,t.enc.cells= [.int .i64 t.kind, .int .i64 t.n, .int .i64 t.ver, .str t.name, .str t.text, .slice (t.edits.map Te.enc) .none, .int .i64 t.req.cl, .int .i64 t.req.id, .int .i64 t.req.q, .int .i64 t.req.arg, .str t.req.name])/\(∀t:Ev,t.enc.isJunk=false)/\(∀t:Ev,t.enc.drop1=t.enc)/\(∀t:Ev,t.enc.drop0=t.enc)/\(∀(t:Ev) (b:Nat),t.enc.fits ⟨true,11,b⟩=true):=
 ⟨Ev.enc_cells,Ev.enc_junk,Ev.enc_drop1,Ev.enc_drop0,λt b=>by rw[Ev.enc_eq];rfl⟩
theorem EvF:(∀(kind:Int) (n:Int) (ver:Int) (name:List UInt8) (text:List UInt8) (edits:List (Te)) (reqcl:Int) (reqid:Int) (reqq:Int) (reqarg:Int) (reqname:List UInt8),PV.agg [.int .i64 kind, .int .i64 n, .int .i64 ver, .str name, .str text, .slice (edits.map Te.enc) .none, .int .i64 reqcl, .int .i64 reqid, .int .i64 reqq, .int .i64 reqarg, .str reqname]=(Ev.mk kind n ver name text edits (Rq.mk reqcl reqid reqq reqarg reqname)).enc)/\
  (∀(kind:Int) (n:Int) (ver:Int) (name:List UInt8) (text:List UInt8) (reqcl:Int) (reqid:Int) (reqq:Int) (reqarg:Int) (reqname:List UInt8),PV.agg [.int .i64 kind, .int .i64 n, .int .i64 ver, .str name, .str text, .slice [] .none, .int .i64 reqcl, .int .i64 reqid, .int .i64 reqq, .int .i64 reqarg, .str reqname]=(Ev.mk kind n ver name text [] (Rq.mk reqcl reqid reqq reqarg reqname)).enc)/\
  (∀t:Ev,Ev.mk t.kind t.n t.ver t.name t.text t.edits t.req=t)/\
  (∀(kind:Int) (n:Int) (ver:Int) (name:List UInt8) (text:List UInt8) (edits:List (Te)) (req:Rq),(Ev.mk kind n ver name text edits req).kind=kind)/\
  (∀(kind:Int) (n:Int) (ver:Int) (name:List UInt8) (text:List UInt8) (edits:List (Te)) (req:Rq),(Ev.mk kind n ver name text edits req).n=n)/\
  (∀(kind:Int) (n:Int) (ver:Int) (name:List UInt8) (text:List UInt8) (edits:List (Te)) (req:Rq),(Ev.mk kind n ver name text edits req).ver=ver)/\
  (∀(kind:Int) (n:Int) (ver:Int) (name:List UInt8) (text:List UInt8) (edits:List (Te)) (req:Rq),(Ev.mk kind n ver name text edits req).name=name)/\
  (∀(kind:Int) (n:Int) (ver:Int) (name:List UInt8) (text:List UInt8) (edits:List (Te)) (req:Rq),(Ev.mk kind n ver name text edits req).text=text)/\
  (∀(kind:Int) (n:Int) (ver:Int) (name:List UInt8) (text:List UInt8) (edits:List (Te)) (req:Rq),(Ev.mk kind n ver name text edits req).edits=edits)/\
  (∀(kind:Int) (n:Int) (ver:Int) (name:List UInt8) (text:List UInt8) (edits:List (Te)) (req:Rq),(Ev.mk kind n ver name text edits req).req=req):=
 ⟨λkind n ver name text edits reqcl reqid reqq reqarg reqname=>(Ev.enc_eq (Ev.mk kind n ver name text edits (Rq.mk reqcl reqid reqq reqarg reqname))).symm,λkind n ver name text reqcl reqid reqq reqarg reqname=>(Ev.enc_eq (Ev.mk kind n ver name text [] (Rq.mk reqcl reqid reqq reqarg reqname))).symm,Ev.eta,λ_ _ _ _ _ _ _=>rfl,λ_ _ _ _ _ _ _=>rfl,λ_ _ _ _ _ _ _=>rfl,λ_ _ _ _ _ _ _=>rfl,λ_ _ _ _ _ _ _=>rfl,λ_ _ _ _ _ _ _=>rfl,λ_ _ _ _ _ _ _=>rfl⟩
def Ev.W(t:Ev):Prop:=t.name.length<=2^47/\t.text.length<=2^47/\t.edits.length*32<=2^47/\(∀u∈t.edits,u.W)/\t.req.W
theorem qM:type_of%(aI @MdS (@MdF)):=aI @MdS (@MdF)
theorem qR:type_of%(aI @RqS (@RqF)):=aI @RqS (@RqF)
theorem qW:type_of%(aI @RsS (@RsF)):=aI @RsS (@RsF)
theorem qJ:type_of%(aI @TeS (@TeF)):=aI @TeS (@TeF)
theorem qK:type_of%(aI @EvS (@EvF)):=aI @EvS (@EvF)
open Go.Proofs Go.Memo
theorem zE{f:FuncId}{caps:List PV}{H:aH}{us:List Md}{p:Md->Bool}(hc:aEu Tryz.prog Md.enc f caps H us p)(hl:us.length<=maxLen):aR Tryz.prog 71 [.slice (us.map Md.enc) .none, .fn (.func f) [] caps] H λr' H'=>r'=aE (cN p us)/\H'=H:=by
 have hgo:=hc.go;refine eW (N:=19) Tryz.func71 rfl rfl zz (.int _ _) λhb'=> ?_;refine aV qM ?_;refine aV (bR lZ jI qM) ?_
 repeat refine wS ?_
 refine iQ (σ:=Unit) (us.length) (λ(s:Unit)=> [(0, .slice (us.map Md.enc) .none),(1, .fn (.func f) [] caps)]) [0,1] (H) (λ(s:Unit)=> []) (λ(i:Nat) (s:Unit)=>(us.take i).any p=false) (()) ([]) rfl rfl rfl rfl rfl rfl rfl rfl rfl z7 z7 z7 (λ_=>rfl) (hl) ⟨(dJ qM),(dJ qM),(dJ qM),(dJ qM),trivial⟩ (dJ qM) zz (λ_ _ _=>by first|exact aNs _| (simp only[aNo];omega)) ?_ ?_ ?_
 ·exact λi s hg=>⟨by simp only[aN9];exact hb', .cons (fP _ _) (.cons (.fn _ _ _ zz (λc hc'=>(hc.bel c hc').mono zz)) .nil)⟩
 ·intro i s hi hg;have g1:=fS hi;have g2:=dF Md.enc hi;refine aV (bR qM g1 g2) ?_;refine eA 5 (bL lZ jI qM g1 g2) ?_;refine qT (bR qM g1 g2) (by assumption) (hc.call _ (aNq hi)) ?_;refine oN ?_;refine gG (bR qM g1 g2) (λb0=> ?_) (λb0=> ?_)
  ·
   refine aV (bR qM g1 g2) ?_
   repeat refine wS ?_
   refine wT ⟨.inr rfl,_,_,rfl, ?_,sP⟩;rw[oQ hi b0 hg];rfl
  ·
   repeat refine wS ?_
   refine wK ?_;exact⟨⟨rfl,rfl,trivial⟩,(),[],⟨rfl,rfl,trivial⟩,by simp only[aN9],iG hi hg b0⟩
 ·intro s hg;rw[aOj]at hg;refine aV qM ?_
  repeat refine wS ?_
  refine wT ⟨.inr rfl,_,_,rfl, ?_,sP⟩;rw[nR hg];rfl
theorem tE{f:FuncId}{caps:List PV}{H:aH}{us:List Md}{p:Md->Bool}(hc:aEu Tryz.prog Md.enc f caps H us p)(hl:us.length<=maxLen):aR Tryz.prog 44 [.slice (us.map Md.enc) .none, .fn (.func f) [] caps] H λr' H'=>r'= .bool (us.any p)/\H'=H:=by
 refine eW (N:=9) Tryz.func44 rfl rfl zz (.bool _) λhb'=> ?_;refine aV qM ?_;refine eA 2 qM ?_;refine qT qM aDr (zE hc hl) ?_;refine bH (aS y3 qM) ?_
 repeat refine wS ?_
 refine wT ⟨.inr rfl,_,_,rfl, ?_,sP⟩;rw[<-qD];rfl
def yS(m:Md):Bool:=decide ((m.src.length:Int)>2000)
def uN(m:Md):Bool:= !GV m.name
def aO(name:List UInt8)(m:Md):Bool:=decide (m.name=name)
def ND(ms:List Md)(i:Nat):Bool:=(ms.take i).any (aO (ms.getD i ⟨[],[]⟩).name)
def gV(ms:List Md):Int:=if(decide ((ms.length:Int)>8)||ms.any yS)=true then 2 else if ms.any uN=true then 3 else if(List.range ms.length).any (ND ms)=true then 6 else 0
theorem aGh{H:aH}(m:Md):aR Tryz.prog 45 [m.enc] H λr H'=>r= .bool (yS m)/\H'=H:=by
 refine eW (N:=7) Tryz.func45 rfl rfl zz (.bool _) λhb'=> ?_;refine aV (aS jI qM) ?_;refine aV (bD y3 y9 jI qM) ?_
 repeat refine wS ?_
 refine wT ⟨.inr rfl,_,_,rfl, ?_,sP⟩
 first|rfl| (simp only[jN,seval,aE,qM,yS];rfl)
theorem aFm{H:aH}(hG:ML G0 H)(m:Md)(hm:m.name.length<=maxLen):aR Tryz.prog 46 [m.enc] H λr H'=>r= .bool (uN m)/\H'=H:=by
 refine eW (N:=7) Tryz.func46 rfl rfl zz (.bool _) λhb'=> ?_;refine aV (aS jI qM) ?_;refine eA 2 (bR y9 jI qM) ?_;refine qT qM aIb (aGw m.name hm _ (hG.app _)) ?_;refine bH qM ?_
 repeat refine wS ?_
 refine wT ⟨.inr rfl,_,_,rfl, ?_,sP⟩
 first|rfl| (simp only[jN,seval,aE,qM,uN];rfl)
theorem aGi{H:aH}{a:Nat}{name:List UInt8}(ha:H[a]? =some (.row [.str name]))(m:Md):aR Tryz.prog 73 [m.enc, .optr a 0] H λr H'=>r= .bool (aO name m)/\H'=H:=by
 have qa:=bU ha;have nA:(a=H.length)=False:=by have:=lG ha;simp;omega
 refine eW (N:=8) Tryz.func73 rfl rfl zz (.bool _) λhb'=> ?_;refine aV (bL jI qM ha qa nA) ?_;refine aV (cF y9 jI qM ha qa nA) ?_
 repeat refine wS ?_
 refine wT ⟨.inr rfl,_,_,rfl, ?_,sP⟩
 first|rfl| (simp only[jN,seval,aE,qM,aO];rfl)
theorem GD{H:aH}(ms:List Md)(name:List UInt8)(hl:ms.length<=maxLen):aR Tryz.prog 48 [.slice (ms.map Md.enc) .none, .str name] H λr H'=>r=aE (cN (aO name) ms)/\H'=H:=by
 refine eW (N:=8) Tryz.func48 rfl rfl zz (.int _ _) λhb'=> ?_;refine aV (aS y9 qM) ?_;refine eA 2 qM ?_;refine oP (by simp only[kC,seval,aE,qM]<;>with_reducible rfl) (by simp only[kC,seval,aE,qM]) z7 aDr (zE (p:=aO name) ⟨aJs,λc hc=>by rw[aN8]at hc;subst hc;exact bF.optr _ _ zz,λu _=>aGi zz u⟩ hl) ?_;refine bH qM ?_
 repeat refine wS ?_
 refine wT ⟨.inr rfl,_,_,rfl, ?_,sP⟩;rfl
end Go.Abs
namespace Go.Abs
open Go.Proofs Go.Memo
theorem KY{ms:List Md}{i:Nat}(hi:i<ms.length):ND ms i=(ms.take i).any (aO ms[i].name):=by
 unfold ND;rw[aNj,aNi hi];rfl
theorem BI{p:Nat->Bool}{i:Nat}(h:(List.range i).any p=false)(hp:p i=false):(List.range (i+1)).any p=false:=by
 rw[List.range_succ,List.any_append,h];simp[hp]
theorem IU{p:Nat->Bool}{n i:Nat}(hi:i<n)(hp:p i=true):(List.range n).any p=true:=List.any_eq_true.2 ⟨i,aN6.2 hi,hp⟩
theorem CP{H:aH}(hG:ML G0 H)(ms:List Md)(hl:ms.length<=maxLen)(hn:∀m∈ms,m.name.length<=maxLen):aR Tryz.prog 24 [.slice (ms.map Md.enc) .none] H λr H'=>r=aE (gV ms)/\H'=H:=by
 unfold gV;refine eW (N:=29) Tryz.func24 rfl rfl zz (.int _ _) λhb'=> ?_;refine aV qM ?_
 repeat refine wS ?_
 refine wR ?_;refine eN ?_;refine yL 5 (bD y3 lZ jI qM) ?_;refine XI qM aD0 (λhc=>tE (f:=45) (caps:= []) (us:=ms) (p:=yS) ⟨aH5,zz,λu hu=>aGh u⟩ hl) ?_;refine DM qM ?_;refine gG qM (λbt11=> ?_) (λbt11=> ?_)
 ·
  rw[if_pos bt11];refine aV qM ?_
  repeat refine wS ?_
  refine wT ⟨.inr rfl,_,_,rfl, ?_,sP⟩;rfl
 ·
  rw[if_neg (by rw[bt11];simp)]
  repeat refine wS ?_
  refine wK ?_;refine eA 1 qM ?_;refine qT qM aD0 (tE (f:=46) (caps:= []) (us:=ms) (p:=uN) ⟨aJb,zz,λu hu=>aFm hG u (hn u hu)⟩ hl) ?_;refine oN ?_;refine gG qM (λbt13=> ?_) (λbt13=> ?_)
  ·
   rw[if_pos bt13];refine aV qM ?_
   repeat refine wS ?_
   refine wT ⟨.inr rfl,_,_,rfl, ?_,sP⟩;rfl
  ·
   rw[if_neg (by rw[bt13];simp)]
   repeat refine wS ?_
   refine wK ?_;refine aV (bR lZ jI qM) ?_
   repeat refine wS ?_
   refine iQ (σ:=Unit) (ms.length) (λ(s:Unit)=> [(0, .slice (ms.map Md.enc) .none),(14, .slice (ms.map Md.enc) .none)]) [0,14] (H) (λ(s:Unit)=> []) (λ(i:Nat) (s:Unit)=>(List.range i).any (ND ms)=false) (()) ([]) rfl rfl rfl rfl rfl rfl rfl rfl rfl z7 z7 z7 (λ_=>rfl) (hl) ⟨(dJ qM),(dJ qM),(dJ qM),(dJ qM),trivial⟩ (dJ qM) zz (λ_ _ _=>by first|exact aNs _| (simp only[aNo];omega)) ?_ ?_ ?_
   ·exact λi s hg=>⟨by first|exact dN _| (simp only[aN9];assumption)| (refine kI hb' zz ?_;repeat (first|exact dN _|exact trivial|exact eK _| (refine iJ.cons ?_ ?_)| (refine dT (by first|exact Md.bel _ _|exact Rq.bel _ _|exact Rs.bel _ _|exact Te.bel _ _|exact fP _ _|exact gK _ _|exact jV _ _|exact jQ _ _|exact bM _ _|exact eX _ _ _ _|exact eF _ _ _|exact bF.int _ _|exact bF.bool _|exact bF.str _|exact bF.nilp|exact bF.nilfn|exact bF.optr _ _ zz|exact cM _|exact cP _|exact cV _ _|assumption) ?_))),by repeat (first|exact jJ.nil|refine jJ.cons (by first|exact Md.bel _ _|exact Rq.bel _ _|exact Rs.bel _ _|exact Te.bel _ _|exact fP _ _|exact gK _ _|exact jV _ _|exact jQ _ _|exact bM _ _|exact eX _ _ _ _|exact eF _ _ _|exact bF.int _ _|exact bF.bool _|exact bF.str _|exact bF.nilp|exact bF.nilfn|exact bF.optr _ _ zz|exact cM _|exact cP _|exact cV _ _|assumption) ?_)⟩
   ·intro i s hi hg;have g1:=fS hi;have g2:=dF Md.enc hi;have g3:(0<=((i:Nat):Int)/\((i:Nat):Int)<=(ms.length:Int))=True:=by simp;omega
    have g4:(ms.map Md.enc).take i=(ms.take i).map Md.enc:=List.map_take.symm;have g5:min i ms.length=i:=z8
    have hdd:=KY hi;have hge:=qD (aO ms[i].name) (ms.take i);rw[<-hdd]at hge;have ga:(∀(e:PV),e∈List.map Md.enc ms->e.cells.length=2)=True:=eq_true λe he=>by obtain⟨v,_,rfl⟩:=aNy.1 he;exact v.enc_len
    refine aV (aG lZ jI qM ga g1 g2 (bL g3 g4 g5 hge @zqM)) ?_
    repeat refine wS ?_
    refine eJ (by kernel_rfl) ?_;refine lY 5 (aG y9 lZ jI jS qM ga (aG g1 g2 g3 g4 g5 hge @zqM)) ?_;refine CE (aG qM ga g1 g2 g3 g4 (bR g5 hge @zqM)) aEk (λhc=>GD (ms.take i) ms[i].name (by simp;omega)) ?_;refine iI (aG y3 qM ga g1 g2 g3 (bD g4 g5 hge @zqM)) ?_;refine gG (aG qM ga g1 g2 g3 g4 (bR g5 hge @zqM)) (λbt27=> ?_) (λbt27=> ?_)
    ·
     rw[if_pos (IU hi bt27)];refine aV (aG qM ga g1 g2 g3 g4 (bR g5 hge @zqM)) ?_
     repeat refine wS ?_
     refine wT ⟨.inr rfl,_,_,rfl, ?_,sP⟩;rfl
    ·
     repeat refine wS ?_
     refine wK ?_;exact⟨⟨rfl,rfl,trivial⟩,(),_,⟨rfl,rfl,trivial⟩,JQ qM,BI hg bt27⟩
   ·intro s hg;rw[if_neg (by rw[hg];simp)];refine aV qM ?_
    repeat refine wS ?_
    refine wT ⟨.inr rfl,_,_,rfl, ?_,sP⟩;rfl
end Go.Abs
namespace Go.Abs
open Go.Proofs Go.Memo
theorem nO(a:Md):a.enc.cells.all PV.isCell=true:=by rw[Md.enc_cells];rfl
theorem AR(a:Rq):a.enc.cells.all PV.isCell=true:=by rw[Rq.enc_cells];rfl
theorem sJ(a:Int):(aE a).cells.all PV.isCell=true:=rfl
theorem qI(a:Int):(aE a).cells.length=1:=rfl
theorem IS(xs:List Md)(hx:xs.length*32<=2^47)(H:aH):aR Tryz.prog 37 [.slice (xs.map Md.enc) .none] H (λr H'=>∃cid,fV Md.enc 2 H' r xs cid/\(∀i∈cid,H.length<=i)/\H.length<=H'.length/\∀j,j<H.length->H'[j]? =H[j]?):=by
 have em:maxLen=9223372036854775807:=z7
 refine aF (N:=8) Tryz.func37 rfl rfl zz λhb'=> ?_;refine wV ?_;refine sU ?_;refine MB 1 ?_;refine pV (es:=xs.map Md.enc) (tl:=.none) rfl (dW eO) rfl z7 (by rw[dZ];rfl) (λb hb=> ?_);refine oN ?_;refine aAl (λb0=> ?_) (λb0=> ?_)
 ·
  have hxs:xs= []:=by
   cases xs with
   |nil=>rfl
   |cons a l=>rw[hb zz]at b0;cases b0
  subst hxs;refine sU ?_
  repeat refine wS ?_
  refine wT ⟨.inr rfl,_,rfl, ?_⟩;exact⟨[], .nil,(λi hi=>by cases hi),zz,λj hj=>aM0 hj⟩
 ·
  repeat refine wS ?_
  refine wK ?_;rcases Classical.em (xs= [])with hxs|hxs
  ·
   subst hxs
   repeat refine wS ?_
   refine eE (by simp only[kA,seval,lZ,jI,aE,aOb,cK]<;>with_reducible rfl) z7 ?_
   repeat refine wS ?_
   refine wT ⟨.inr rfl,_,rfl, ?_⟩;exact⟨[], .nil,(λi hi=>by cases hi),zz,λj hj=>aM0 hj⟩
  ·
   refine eA 2 (aS lZ jI) ?_;refine xM (xs:=xs.map Md.enc) (tl:=.none) H.length zz (bP eO) rfl z7 z7 (dW eO) (dW eO) (by simpa using hxs) (by rw[aMw];exact hx) (by rw[aMw];omega) (λe he=>by obtain⟨v,_,rfl⟩:=aNy.1 he;exact Md.enc_len v) z7 dZ (by rw[dZ];rfl) rJ rfl ?_;intro c rest hc1 hc2 hrest;rw[aMw]at hc1 hrest⊢;have hrl:rest.length=(c-xs.length)*2:=by rw[hrest];simp[PV.cells]
   rw[show(H++ [AObj.unborn]).set H.length (.row (aL (xs.map Md.enc)++rest))=H++ [.row (aL (xs.map Md.enc)++rest)]from by simp];refine CJ ?_
   repeat refine wS ?_
   refine wT ⟨.inr rfl,_,rfl, ?_⟩;exact⟨[H.length], .of (rest:=rest) rfl zz (by rw[hrl,<-aNu];congr 1;omega) hc2,λi hi=>by rw[aN8]at hi;omega,zz,λj hj=>aM0 hj⟩
theorem RN(xs:List Int)(hx:xs.length*8<=2^47)(H:aH):aR Tryz.prog 52 [.slice (xs.map aE) .none] H (λr H'=>∃cid,fV aE 1 H' r xs cid/\(∀i∈cid,H.length<=i)/\H.length<=H'.length/\∀j,j<H.length->H'[j]? =H[j]?):=by
 have em:maxLen=9223372036854775807:=z7
 refine aF (N:=8) Tryz.func52 rfl rfl zz λhb'=> ?_;refine wV ?_;refine sU ?_;refine MB 1 ?_;refine pV (es:=xs.map aE) (tl:=.none) rfl (dW eO) rfl z7 (by rw[eD];rfl) (λb hb=> ?_);refine oN ?_;refine aAl (λb0=> ?_) (λb0=> ?_)
 ·
  have hxs:xs= []:=by
   cases xs with
   |nil=>rfl
   |cons a l=>rw[hb zz]at b0;cases b0
  subst hxs;refine sU ?_
  repeat refine wS ?_
  refine wT ⟨.inr rfl,_,rfl, ?_⟩;exact⟨[], .nil,(λi hi=>by cases hi),zz,λj hj=>aM0 hj⟩
 ·
  repeat refine wS ?_
  refine wK ?_;rcases Classical.em (xs= [])with hxs|hxs
  ·
   subst hxs
   repeat refine wS ?_
   refine eE (by simp only[kA,seval,y3,lW,aE,aOb,cK]<;>with_reducible rfl) z7 ?_
   repeat refine wS ?_
   refine wT ⟨.inr rfl,_,rfl, ?_⟩;exact⟨[], .nil,(λi hi=>by cases hi),zz,λj hj=>aM0 hj⟩
  ·
   refine eA 2 (aS y3 lW) ?_;refine xM (xs:=xs.map aE) (tl:=.none) H.length zz (bP eO) rfl z7 z7 (dW eO) (dW eO) (by simpa using hxs) (by rw[aMw];exact hx) (by rw[aMw];omega) (λe he=>by obtain⟨v,_,rfl⟩:=aNy.1 he;exact qI v) z7 eD (by rw[eD];rfl) zX rfl ?_;intro c rest hc1 hc2 hrest;rw[aMw]at hc1 hrest⊢;have hrl:rest.length=(c-xs.length)*1:=by rw[hrest];simp[PV.cells]
   rw[show(H++ [AObj.unborn]).set H.length (.row (aL (xs.map aE)++rest))=H++ [.row (aL (xs.map aE)++rest)]from by simp];refine CJ ?_
   repeat refine wS ?_
   refine wT ⟨.inr rfl,_,rfl, ?_⟩;exact⟨[H.length], .of (rest:=rest) rfl zz (by rw[hrl,<-aNu];congr 1;omega) hc2,λi hi=>by rw[aN8]at hi;omega,zz,λj hj=>aM0 hj⟩
end Go.Abs
namespace Go.Abs
open Go.Proofs Go.Memo
theorem aHz(xs:List Md)(i:Nat)(hi:i<xs.length){pre rest:List PV}{id c:Nat}{H:aH}(hH:H[id]? =some (.row (pre++(aL (xs.map Md.enc)++rest))))(hn:xs.length<=c)(hm:c<=maxLen):aR Tryz.prog 59 [.msl id pre.length xs.length c,aE (i:Int),aE ((i+1:Nat):Int)] H (λr H'=>r= .msl id pre.length (xs.length-1) c/\H'=H.set id (.row (pre++(aL ((xs.eraseIdx i).map Md.enc)++([.str [], .str []]++rest))))):=by
 have em:maxLen=9223372036854775807:=z7
 have hil:=lG hH;have g1:decide (((i:Nat):Int)=((i+1:Nat):Int))=false:=decide_eq_false z8;have gn:(0:Nat)=0:=rfl;obtain⟨hsrc,hsf⟩:=DJ (enc:=Md.enc) (sz:=2) Md.enc_len (pre:=pre) (rest:=rest) (xs:=xs) (j:=i+1) (c:=c) z8 hn;obtain⟨mid,hmid,hsp⟩:=yM (enc:=Md.enc) (sz:=2) Md.enc_len (pre:=pre) (rest:=rest) hi;have hfit:=IQ (enc:=Md.enc) (sz:=2) Md.enc_len (pre:=pre) (rest:=rest) hi;have hfe:=IG (enc:=Md.enc) (sz:=2) Md.enc_len (pre:=pre) (rest:=rest) (ys:=xs.eraseIdx i) (n:=xs.length-1) (by rw[List.length_eraseIdx_of_lt hi]) hmid;have hend:=yN (enc:=Md.enc) (sz:=2) Md.enc_len (pre:=pre) (rest:=rest) (mid:=mid) (Z:= [.str [], .str []]) (ys:=xs.eraseIdx i) (n:=xs.length-1) (by rw[List.length_eraseIdx_of_lt hi]) hmid rfl;have ho1:nJ pre.length 2 (xs.length-1) c=pre.length+(xs.length-1)*2:=xQ z8;have hn1:xs.length- (xs.length-1)=1:=z8
 have hend0:dR (pre++(aL ((xs.eraseIdx i).map Md.enc)++(mid++rest))) (pre.length+(xs.length-1)*2) (aNb 1 (PV.cells (.agg [.str [], .str []]))).flatten=_:=hend;refine aF (N:=33) Tryz.func59 rfl rfl zz λhb'=> ?_;refine aV (aS g1 gn) ?_;refine eA 5 (bD lZ jI g1 gn) ?_;refine fE (bP (aS g1 gn)) (jW (lo:=(some (.tmp 9))) (hi:=(some (.tmp 10))) (mx:=(some (.tmp 12))) (l:=i) (h:=(i+1)) (m:=xs.length) rfl z7 dZ (bK (aS g1 gn)) (⟨z7,bK (aS g1 gn)⟩) (⟨z7,bK (aS g1 gn)⟩) (⟨z7,bK (aS g1 gn)⟩) zz z8 z8 z8) ?_;refine oN ?_;refine aV (bR y3 g1 gn) ?_;refine pJ (aS g1 gn) ?_
 repeat refine wS ?_
 refine wK ?_;refine aV (bD lZ jI g1 gn) ?_
 repeat refine wS ?_
 refine dV 0 (by kernel_rfl) ?_;simp only[aOd,aN9];refine eZ 6 (bm:= [0,0,3,0,0,24,63,127]) (by kernel_rfl) z7 (by kernel_rfl) (by kernel_rfl) ?_;refine lY 2 (aS g1 gn) ?_;refine lQ (zN (aS g1 gn)) (by rfl) (jW (lo:=none) (hi:=(some (.tmp 21))) (mx:=none) (l:=0) (h:=i) (m:=c) rfl z7 dZ (bK (aS g1 gn)) (rfl) (⟨z7,bK (aS g1 gn)⟩) (rfl) zz z8 z8 z8) ?_;refine lY 2 (aS g1 gn) ?_;refine lQ (zN (aS g1 gn)) (by rfl) (jW (lo:=(some (.tmp 24))) (hi:=none) (mx:=none) (l:=(i+1)) (h:=xs.length) (m:=c) rfl z7 dZ (bK (aS g1 gn)) (⟨z7,bK (aS g1 gn)⟩) (rfl) (rfl) zz z8 z8 z8) ?_;refine iI (aS g1 gn) ?_;refine gJ (k:=6) (bm:= [0,0,3,0,0,24,63,127]) (by kernel_rfl) rfl (by kernel_rfl) (by kernel_rfl) ?_;refine uD (id:=id) (off:=pre.length) (n:=i) (c:=c) (m:=xs.length- (i+1)) (src:=aL ((xs.drop (i+1)).map Md.enc)) hH (bP (aS g1 gn)) rfl z7 z7 (by rw[yE]at*;simp only[kC,seval,aE,g1,gn]<;>first|done|rfl) z8 (λE v ho hE hv=> ?_) (mO nO _) hfit dZ (by rw[dZ];rfl) ?_
 ·obtain⟨ad,rfl,arrs,r1,r2⟩:=kL (P:=Tryz.prog) (id:=id) (off:=nJ pre.length 2 (i+1) c) (n:=xs.length- (i+1)) (c:=c- (i+1)) (k:=xs.length- (i+1)) (sz:=2) ho (by rw[hE];exact hH) hsf (by have:=hv;simp only[kC,seval,aE,g1,gn]at this;exact this);rw[hsrc]at r2;exact⟨ad,_,rfl,arrs,r1,r2⟩
 rw[show i+(xs.length- (i+1))=xs.length-1 from by omega];rw[show dR (pre++(aL (xs.map Md.enc)++rest)) (pre.length+i*(Prod.snd _:TI).sz) _=_ from hsp];refine oN ?_;show iP _ _ _ _ _ _ _ _;refine gJ (k:=7) (bm:= [0,0,3,0,0,24,63,127]) (by kernel_rfl) rfl (by kernel_rfl) (by kernel_rfl) ?_;refine bH (aS g1 gn) ?_;show iP _ _ _ _ _ _ _ _;refine eV ?_;refine gQ [0,7] (aS g1 gn) ?_;refine eA 4 (bD lZ jI g1 gn) ?_;refine fE (bP (aS g1 gn)) (jW (lo:=(some (.tmp 29))) (hi:=(some (.tmp 30))) (mx:=none) (l:=(xs.length-1)) (h:=xs.length) (m:=c) rfl z7 dZ (bK (aS g1 gn)) (⟨z7,bK (aS g1 gn)⟩) (⟨z7,bK (aS g1 gn)⟩) (rfl) zz z8 z8 z8) ?_;refine sW (id:=id) (off:=nJ pre.length 2 (xs.length-1) c) (n:=xs.length- (xs.length-1)) (c:=c- (xs.length-1)) (aM4 hil) (bP (aS g1 gn)) rfl z7 (bK (aS g1 gn)) dZ rJ rfl z7 (by rw[ho1,hn1];exact hfe) ?_;rw[ho1,hn1,List.set_set,hend0];refine oN ?_;refine aV (aS g1 gn) ?_
 repeat refine wS ?_
 refine wT ⟨.inr rfl,_,rfl, ?_⟩;exact⟨rfl,rfl⟩
theorem aLb(xs:List Int)(i:Nat)(hi:i<xs.length){pre rest:List PV}{id c:Nat}{H:aH}(hH:H[id]? =some (.row (pre++(aL (xs.map aE)++rest))))(hn:xs.length<=c)(hm:c<=maxLen):aR Tryz.prog 60 [.msl id pre.length xs.length c,aE (i:Int),aE ((i+1:Nat):Int)] H (λr H'=>r= .msl id pre.length (xs.length-1) c/\H'=H.set id (.row (pre++(aL ((xs.eraseIdx i).map aE)++([.int .i64 0]++rest))))):=by
 have em:maxLen=9223372036854775807:=z7
 have hil:=lG hH;have g1:decide (((i:Nat):Int)=((i+1:Nat):Int))=false:=decide_eq_false z8;have gn:(0:Nat)=0:=rfl;obtain⟨hsrc,hsf⟩:=DJ (enc:=aE) (sz:=1) qI (pre:=pre) (rest:=rest) (xs:=xs) (j:=i+1) (c:=c) z8 hn;obtain⟨mid,hmid,hsp⟩:=yM (enc:=aE) (sz:=1) qI (pre:=pre) (rest:=rest) hi;have hfit:=IQ (enc:=aE) (sz:=1) qI (pre:=pre) (rest:=rest) hi;have hfe:=IG (enc:=aE) (sz:=1) qI (pre:=pre) (rest:=rest) (ys:=xs.eraseIdx i) (n:=xs.length-1) (by rw[List.length_eraseIdx_of_lt hi]) hmid;have hend:=yN (enc:=aE) (sz:=1) qI (pre:=pre) (rest:=rest) (mid:=mid) (Z:= [.int .i64 0]) (ys:=xs.eraseIdx i) (n:=xs.length-1) (by rw[List.length_eraseIdx_of_lt hi]) hmid rfl;have ho1:nJ pre.length 1 (xs.length-1) c=pre.length+(xs.length-1)*1:=xQ z8;have hn1:xs.length- (xs.length-1)=1:=z8
 have hend0:dR (pre++(aL ((xs.eraseIdx i).map aE)++(mid++rest))) (pre.length+(xs.length-1)*1) (aNb 1 (PV.cells (.int .i64 0))).flatten=_:=hend;refine aF (N:=33) Tryz.func60 rfl rfl zz λhb'=> ?_;refine aV (aS g1 gn) ?_;refine eA 5 (bD y3 lW g1 gn) ?_;refine fE (bP (aS g1 gn)) (jW (lo:=(some (.tmp 9))) (hi:=(some (.tmp 10))) (mx:=(some (.tmp 12))) (l:=i) (h:=(i+1)) (m:=xs.length) rfl z7 eD (bK (aS g1 gn)) (⟨z7,bK (aS g1 gn)⟩) (⟨z7,bK (aS g1 gn)⟩) (⟨z7,bK (aS g1 gn)⟩) zz z8 z8 z8) ?_;refine oN ?_;refine aV (bR y3 g1 gn) ?_;refine pJ (aS g1 gn) ?_
 repeat refine wS ?_
 refine wK ?_;refine aV (bD y3 lW g1 gn) ?_
 repeat refine wS ?_
 refine dV 0 (by kernel_rfl) ?_;simp only[aOd,aN9];refine eZ 6 (bm:= [0,0,3,0,0,24,63,127]) (by kernel_rfl) z7 (by kernel_rfl) (by kernel_rfl) ?_;refine lY 2 (aS g1 gn) ?_;refine lQ (zN (aS g1 gn)) (by rfl) (jW (lo:=none) (hi:=(some (.tmp 21))) (mx:=none) (l:=0) (h:=i) (m:=c) rfl z7 eD (bK (aS g1 gn)) (rfl) (⟨z7,bK (aS g1 gn)⟩) (rfl) zz z8 z8 z8) ?_;refine lY 2 (aS g1 gn) ?_;refine lQ (zN (aS g1 gn)) (by rfl) (jW (lo:=(some (.tmp 24))) (hi:=none) (mx:=none) (l:=(i+1)) (h:=xs.length) (m:=c) rfl z7 eD (bK (aS g1 gn)) (⟨z7,bK (aS g1 gn)⟩) (rfl) (rfl) zz z8 z8 z8) ?_;refine iI (aS g1 gn) ?_;refine gJ (k:=6) (bm:= [0,0,3,0,0,24,63,127]) (by kernel_rfl) rfl (by kernel_rfl) (by kernel_rfl) ?_;refine uD (id:=id) (off:=pre.length) (n:=i) (c:=c) (m:=xs.length- (i+1)) (src:=aL ((xs.drop (i+1)).map aE)) hH (bP (aS g1 gn)) rfl z7 z7 (by rw[yE]at*;simp only[kC,seval,aE,g1,gn]<;>first|done|rfl) z8 (λE v ho hE hv=> ?_) (mO sJ _) hfit eD (by rw[eD];rfl) ?_
 ·obtain⟨ad,rfl,arrs,r1,r2⟩:=kL (P:=Tryz.prog) (id:=id) (off:=nJ pre.length 1 (i+1) c) (n:=xs.length- (i+1)) (c:=c- (i+1)) (k:=xs.length- (i+1)) (sz:=1) ho (by rw[hE];exact hH) hsf (by have:=hv;simp only[kC,seval,aE,g1,gn]at this;exact this);rw[hsrc]at r2;exact⟨ad,_,rfl,arrs,r1,r2⟩
 rw[show i+(xs.length- (i+1))=xs.length-1 from by omega];rw[show dR (pre++(aL (xs.map aE)++rest)) (pre.length+i*(Prod.snd _:TI).sz) _=_ from hsp];refine oN ?_;show iP _ _ _ _ _ _ _ _;refine gJ (k:=7) (bm:= [0,0,3,0,0,24,63,127]) (by kernel_rfl) rfl (by kernel_rfl) (by kernel_rfl) ?_;refine bH (aS g1 gn) ?_;show iP _ _ _ _ _ _ _ _;refine eV ?_;refine gQ [0,7] (aS g1 gn) ?_;refine eA 4 (bD y3 lW g1 gn) ?_;refine fE (bP (aS g1 gn)) (jW (lo:=(some (.tmp 29))) (hi:=(some (.tmp 30))) (mx:=none) (l:=(xs.length-1)) (h:=xs.length) (m:=c) rfl z7 eD (bK (aS g1 gn)) (⟨z7,bK (aS g1 gn)⟩) (⟨z7,bK (aS g1 gn)⟩) (rfl) zz z8 z8 z8) ?_;refine sW (id:=id) (off:=nJ pre.length 1 (xs.length-1) c) (n:=xs.length- (xs.length-1)) (c:=c- (xs.length-1)) (aM4 hil) (bP (aS g1 gn)) rfl z7 (bK (aS g1 gn)) eD zX rfl z7 (by rw[ho1,hn1];exact hfe) ?_;rw[ho1,hn1,List.set_set,hend0];refine oN ?_;refine aV (aS g1 gn) ?_
 repeat refine wS ?_
 refine wT ⟨.inr rfl,_,rfl, ?_⟩;exact⟨rfl,rfl⟩
theorem aKd(xs:List Rq)(i:Nat)(hi:i<xs.length){pre rest:List PV}{id c:Nat}{H:aH}(hH:H[id]? =some (.row (pre++(aL (xs.map Rq.enc)++rest))))(hn:xs.length<=c)(hm:c<=maxLen):aR Tryz.prog 62 [.msl id pre.length xs.length c,aE (i:Int),aE ((i+1:Nat):Int)] H (λr H'=>r= .msl id pre.length (xs.length-1) c/\H'=H.set id (.row (pre++(aL ((xs.eraseIdx i).map Rq.enc)++([.int .i64 0, .int .i64 0, .int .i64 0, .int .i64 0, .str []]++rest))))):=by
 have em:maxLen=9223372036854775807:=z7
 have hil:=lG hH;have g1:decide (((i:Nat):Int)=((i+1:Nat):Int))=false:=decide_eq_false z8;have gn:(0:Nat)=0:=rfl;obtain⟨hsrc,hsf⟩:=DJ (enc:=Rq.enc) (sz:=5) Rq.enc_len (pre:=pre) (rest:=rest) (xs:=xs) (j:=i+1) (c:=c) z8 hn;obtain⟨mid,hmid,hsp⟩:=yM (enc:=Rq.enc) (sz:=5) Rq.enc_len (pre:=pre) (rest:=rest) hi;have hfit:=IQ (enc:=Rq.enc) (sz:=5) Rq.enc_len (pre:=pre) (rest:=rest) hi;have hfe:=IG (enc:=Rq.enc) (sz:=5) Rq.enc_len (pre:=pre) (rest:=rest) (ys:=xs.eraseIdx i) (n:=xs.length-1) (by rw[List.length_eraseIdx_of_lt hi]) hmid;have hend:=yN (enc:=Rq.enc) (sz:=5) Rq.enc_len (pre:=pre) (rest:=rest) (mid:=mid) (Z:= [.int .i64 0, .int .i64 0, .int .i64 0, .int .i64 0, .str []]) (ys:=xs.eraseIdx i) (n:=xs.length-1) (by rw[List.length_eraseIdx_of_lt hi]) hmid rfl;have ho1:nJ pre.length 5 (xs.length-1) c=pre.length+(xs.length-1)*5:=xQ z8;have hn1:xs.length- (xs.length-1)=1:=z8
 have hend0:dR (pre++(aL ((xs.eraseIdx i).map Rq.enc)++(mid++rest))) (pre.length+(xs.length-1)*5) (aNb 1 (PV.cells (.agg [.int .i64 0, .int .i64 0, .int .i64 0, .int .i64 0, .str []]))).flatten=_:=hend;refine aF (N:=33) Tryz.func62 rfl rfl zz λhb'=> ?_;refine aV (aS g1 gn) ?_;refine eA 5 (bD jH qU g1 gn) ?_;refine fE (bP (aS g1 gn)) (jW (lo:=(some (.tmp 9))) (hi:=(some (.tmp 10))) (mx:=(some (.tmp 12))) (l:=i) (h:=(i+1)) (m:=xs.length) rfl z7 kD (bK (aS g1 gn)) (⟨z7,bK (aS g1 gn)⟩) (⟨z7,bK (aS g1 gn)⟩) (⟨z7,bK (aS g1 gn)⟩) zz z8 z8 z8) ?_;refine oN ?_;refine aV (bR y3 g1 gn) ?_;refine pJ (aS g1 gn) ?_
 repeat refine wS ?_
 refine wK ?_;refine aV (bD jH qU g1 gn) ?_
 repeat refine wS ?_
 refine dV 0 (by kernel_rfl) ?_;simp only[aOd,aN9];refine eZ 6 (bm:= [0,0,3,0,0,24,63,127]) (by kernel_rfl) z7 (by kernel_rfl) (by kernel_rfl) ?_;refine lY 2 (aS g1 gn) ?_;refine lQ (zN (aS g1 gn)) (by rfl) (jW (lo:=none) (hi:=(some (.tmp 21))) (mx:=none) (l:=0) (h:=i) (m:=c) rfl z7 kD (bK (aS g1 gn)) (rfl) (⟨z7,bK (aS g1 gn)⟩) (rfl) zz z8 z8 z8) ?_;refine lY 2 (aS g1 gn) ?_;refine lQ (zN (aS g1 gn)) (by rfl) (jW (lo:=(some (.tmp 24))) (hi:=none) (mx:=none) (l:=(i+1)) (h:=xs.length) (m:=c) rfl z7 kD (bK (aS g1 gn)) (⟨z7,bK (aS g1 gn)⟩) (rfl) (rfl) zz z8 z8 z8) ?_;refine iI (aS g1 gn) ?_;refine gJ (k:=6) (bm:= [0,0,3,0,0,24,63,127]) (by kernel_rfl) rfl (by kernel_rfl) (by kernel_rfl) ?_;refine uD (id:=id) (off:=pre.length) (n:=i) (c:=c) (m:=xs.length- (i+1)) (src:=aL ((xs.drop (i+1)).map Rq.enc)) hH (bP (aS g1 gn)) rfl z7 z7 (by rw[yE]at*;simp only[kC,seval,aE,g1,gn]<;>first|done|rfl) z8 (λE v ho hE hv=> ?_) (mO AR _) hfit kD (by rw[kD];rfl) ?_
 ·obtain⟨ad,rfl,arrs,r1,r2⟩:=kL (P:=Tryz.prog) (id:=id) (off:=nJ pre.length 5 (i+1) c) (n:=xs.length- (i+1)) (c:=c- (i+1)) (k:=xs.length- (i+1)) (sz:=5) ho (by rw[hE];exact hH) hsf (by have:=hv;simp only[kC,seval,aE,g1,gn]at this;exact this);rw[hsrc]at r2;exact⟨ad,_,rfl,arrs,r1,r2⟩
 rw[show i+(xs.length- (i+1))=xs.length-1 from by omega];rw[show dR (pre++(aL (xs.map Rq.enc)++rest)) (pre.length+i*(Prod.snd _:TI).sz) _=_ from hsp];refine oN ?_;show iP _ _ _ _ _ _ _ _;refine gJ (k:=7) (bm:= [0,0,3,0,0,24,63,127]) (by kernel_rfl) rfl (by kernel_rfl) (by kernel_rfl) ?_;refine bH (aS g1 gn) ?_;show iP _ _ _ _ _ _ _ _;refine eV ?_;refine gQ [0,7] (aS g1 gn) ?_;refine eA 4 (bD jH qU g1 gn) ?_;refine fE (bP (aS g1 gn)) (jW (lo:=(some (.tmp 29))) (hi:=(some (.tmp 30))) (mx:=none) (l:=(xs.length-1)) (h:=xs.length) (m:=c) rfl z7 kD (bK (aS g1 gn)) (⟨z7,bK (aS g1 gn)⟩) (⟨z7,bK (aS g1 gn)⟩) (rfl) zz z8 z8 z8) ?_;refine sW (id:=id) (off:=nJ pre.length 5 (xs.length-1) c) (n:=xs.length- (xs.length-1)) (c:=c- (xs.length-1)) (aM4 hil) (bP (aS g1 gn)) rfl z7 (bK (aS g1 gn)) kD CT rfl z7 (by rw[ho1,hn1];exact hfe) ?_;rw[ho1,hn1,List.set_set,hend0];refine oN ?_;refine aV (aS g1 gn) ?_
 repeat refine wS ?_
 refine wT ⟨.inr rfl,_,rfl, ?_⟩;exact⟨rfl,rfl⟩
end Go.Abs
set_option maxHeartbeats 1000000
namespace Go.Abs
open Go.Proofs Go.Memo
theorem aH2(xs:List Md)(i:Nat)(hi:i<xs.length)(hl:xs.length<=1000000){rest:List PV}{id vid c:Nat}{a:Md}{H0:aH}(hH:H0[id]? =some (.row (aL (xs.map Md.enc)++rest)))(hc:xs.length*2+rest.length=c*2)(hm:c<=maxLen)(hv:H0[vid]? =some (.row (PV.cells (Md.enc a))))(hne:vid≠id):aR Tryz.prog 57 [.msl id 0 xs.length c,aE (i:Int), .msl vid 0 1 1] H0 λr H'=>∃ic c' rest',r= .msl ic 0 (xs.length+1) c'/\H'[ic]? =some (.row (aL ((xs.take i++a::xs.drop i).map Md.enc)++rest'))/\(xs.length+1)*2+rest'.length=c'*2/\c'<=maxLen/\(ic=id\/H0.length<=ic)/\H0.length<=H'.length/\∀j,j<H0.length->j≠id->H'[j]? =H0[j]? :=by
 have hmx:maxLen=9223372036854775807:=z7
 have hil:=lG hH;have hvl:=lG hv;have hla:(PV.cells (Md.enc a)).length=2:=Md.enc_len a;have hsf:=DJ (enc:=Md.enc) (sz:=2) Md.enc_len (pre:= []) (rest:=rest) (xs:=xs) (j:=i) (c:=xs.length) z8 (aMq _);rw[xQ z8]at hsf;obtain⟨hsrc,hfitS⟩:=hsf;simp only[aN7,aOa,aNn]at hsrc hfitS;have lT:=pD (enc:=Md.enc) (sz:=2) Md.enc_len (xs:=xs) (i:=i) z8;have lR:(aL (xs.map Md.enc)++rest).length=c*2:=by rw[aNo,fD Md.enc_len];exact hc
 have hT:(aL (xs.map Md.enc)++rest).take (i*2)=aL ((xs.take i).map Md.enc):=by rw[mG xs i,aOe,<-lT,List.take_left]
 obtain⟨R,hR⟩:∃R,R=aL (xs.map Md.enc)++rest:=⟨_,rfl⟩;rw[<-hR]at hH lR hT hsrc hfitS;have hk1:xs.length<=c:=z8
 have hfitZ:i*2<=R.length:=by rw[lR];omega
 have g2:decide (((i:Nat):Int)=((xs.length:Nat):Int))=false:=decide_eq_false z8;have gw:IntKind.i64.wrap (((xs.length:Nat):Int)+1)=((xs.length+1:Nat):Int):=by rw[cL z8 z8];omega
 have gw1:IntKind.i64.wrap (((i:Nat):Int)+1)=((i+1:Nat):Int):=by rw[cL z8 z8];omega
 have gw2:IntKind.i64.wrap (((xs.length+1:Nat):Int) - ((i:Nat):Int))=((xs.length+1-i:Nat):Int):=by rw[cL z8 z8];omega
 refine aF (N:=95) Tryz.func57 rfl rfl zz λhb'=> ?_;refine aV (cF gw gw1 gw2 g2 hH hv) ?_;refine eA 2 (cF gw gw1 gw2 g2 hH hv) ?_;refine fE (bP (cF gw gw1 gw2 g2 hH hv)) (dK (id:=id) (n:=xs.length) (c:=c) (k:=i) (kk:=.i64) rfl z7 z7 dZ (bK (cF gw gw1 gw2 g2 hH hv)) (bK (cF gw gw1 gw2 g2 hH hv)) z8 z8) ?_;refine oN ?_;refine aV (aG lZ jI gw gw1 gw2 g2 (aS hH hv)) ?_;refine aV (aG y3 gw gw1 gw2 g2 hH hv) ?_;refine pJ (cF gw gw1 gw2 g2 hH hv) ?_
 repeat refine wS ?_
 refine wK ?_;refine aV (aG lZ jI gw gw1 gw2 g2 (aS hH hv)) ?_;refine aV (aG y3 gw gw1 gw2 g2 hH hv) ?_;refine pJ (cF gw gw1 gw2 g2 hH hv) ?_
 repeat refine wS ?_
 refine wK ?_;refine gQ [0,1,2,7,8] (cF gw gw1 gw2 g2 hH hv) ?_;rcases aMo xs.length c with hroom|hfull
 ·
  have gl:decide (((xs.length+1:Nat):Int)>(c:Int))=false:=decide_eq_false z8;refine eA 4 (aG y3 gw gw1 gw2 g2 hH (aS hv gl)) ?_;refine uK (id:=id) (off:=0) (n:=xs.length) (c:=c) rfl (bK (cF gw gw1 gw2 g2 hH hv)) (bP (cF gw gw1 gw2 g2 hH hv)) z7 rfl ?_;refine bH (aG y3 gw gw1 gw2 g2 hH (aS hv gl)) ?_;refine pJ (aG gw gw1 gw2 g2 hH hv gl) ?_
  repeat refine wS ?_
  refine wK ?_;refine eA 4 (aG y3 gw gw1 gw2 g2 hH (aS hv gl)) ?_;refine pY (id:=id) (n:=xs.length) (c:=c) (kk:=.i64) (k:=xs.length+1) (bP (aG gw gw1 gw2 g2 hH hv gl)) rfl z7 z7 dZ (bK (aG gw gw1 gw2 g2 hH hv gl)) (bK (aG gw gw1 gw2 g2 hH hv gl)) z8 ?_;refine bH (aG gw gw1 gw2 g2 hH hv gl) ?_;refine eA 5 (aG y3 gw gw1 gw2 g2 hH (aS hv gl)) ?_;refine fE (bP (aG gw gw1 gw2 g2 hH hv gl)) (dK (id:=id) (n:=xs.length+1) (c:=c) (k:=i+1) (kk:=.i64) rfl z7 z7 dZ (bK (aG gw gw1 gw2 g2 hH hv gl)) (bK (aG gw gw1 gw2 g2 hH hv gl)) z8 z8) ?_;refine uZ (ia:=vid) (ib:=id) (f:=77) (tR:=4) (bP (aG gw gw1 gw2 g2 hH hv gl)) rfl z7 z7 z7 (bK (aG gw gw1 gw2 g2 hH hv gl)) (bK (aG gw gw1 gw2 g2 hH hv gl)) (bK (aG gw gw1 gw2 g2 hH hv gl)) hne hv hH (by rintro rfl;simp at lR;omega) Tryz.func77 (by kernel_rfl) (by kernel_rfl) (by kernel_rfl) (by kernel_rfl) Tryz.underlying39 aD9 ?_;refine bH (aG gw gw1 gw2 g2 hH hv gl) ?_;refine VV (aG gw gw1 gw2 g2 hH hv gl) ?_;refine gQ [0,1,2,7] (aG gw gw1 gw2 g2 hH hv gl) ?_;obtain⟨R2,f1,f2,f3,f4,f5,f6⟩:=MO (enc:=Md.enc) (sz:=2) Md.enc_len hi a hc hroom;rw[<-hR]at f1 f3
  repeat refine wS ?_
  refine dV 0 (by kernel_rfl) ?_;simp only[aOd,aN9];refine eZ 8 (bm:= [0,0,0,6,15,0,0,96,255]) (by kernel_rfl) z7 (by kernel_rfl) (by kernel_rfl) ?_;refine lY 4 (aG y3 gw gw1 gw2 g2 hH (aS hv gl)) ?_;refine lQ (zN (aG gw gw1 gw2 g2 hH hv gl)) (by rfl) (dK (id:=id) (n:=xs.length+1) (c:=c) (k:=i+1) (kk:=.i64) rfl z7 z7 dZ (bK (aG gw gw1 gw2 g2 hH hv gl)) (bK (aG gw gw1 gw2 g2 hH hv gl)) z8 z8) ?_;refine lY 2 (aG gw gw1 gw2 g2 hH hv gl) ?_;refine lQ (zN (aG gw gw1 gw2 g2 hH hv gl)) (by rfl) (dK (id:=id) (n:=xs.length+1) (c:=c) (k:=i) (kk:=.i64) rfl z7 z7 dZ (bK (aG gw gw1 gw2 g2 hH hv gl)) (bK (aG gw gw1 gw2 g2 hH hv gl)) z8 z8) ?_;refine iI (aG gw gw1 gw2 g2 hH hv gl) ?_;refine gJ (k:=8) (bm:= [0,0,0,6,15,0,0,96,255]) (by kernel_rfl) rfl (by kernel_rfl) (by kernel_rfl) ?_;refine kX (id:=id) (off:=(i+1)*2) (n:=xs.length+1- (i+1)) (c:=c- (i+1)) (cs:=R) (src:=aL ((xs.drop i).map Md.enc)) hH (bP (aG gw gw1 gw2 g2 hH hv gl)) rfl z7 z7 (bK (aG gw gw1 gw2 g2 hH hv gl)) dZ (λE v ho hE hv=>by
   have hv':aQ E.view v (.msl id (i*2) (xs.length+1-i) (c-i)):=by have:=hv;simp only[kC,seval,aE,gw,gw1,gw2,g2,hH,hv,gl]at this;exact this
   obtain⟨ad,rfl,arrs,r1,r2⟩:=kL (P:=Tryz.prog) (k:=(xs.length-i)) (sz:=2) ho (by rw[hE];exact hH) (hfitS) hv';exact⟨_,ad,_,rfl,arrs,by rw[show Nat.min (xs.length+1-i) (xs.length+1- (i+1))=(xs.length-i)from by(try simp[Nat.min_def])<;>(try omega)];exact r1,by rw[hsrc]at r2;exact r2⟩) (mO nO _) (f3) ?_
  refine oN ?_;show iP _ _ _ _ _ _ _ _;refine eV ?_;rw[f1];have hH3:(H0.set id (.row R2))[id]? =some (.row R2):=aM4 hil;have hv3:(H0.set id (.row R2))[vid]? =some (.row (PV.cells (Md.enc a))):=by rw[aM5 (Ne.symm hne)];exact hv
  refine eA 2 (aG gw gw1 gw2 g2 hH hv gl) ?_;refine fE (bP (aG gw gw1 gw2 g2 hH hv gl)) (dK (id:=id) (n:=xs.length+1) (c:=c) (k:=i) (kk:=.i64) rfl z7 z7 dZ (bK (aG gw gw1 gw2 g2 hH hv gl)) (bK (aG gw gw1 gw2 g2 hH hv gl)) z8 z8) ?_;refine DS 1 (aG gw gw1 gw2 g2 hH hv gl) ?_;refine kX (id:=id) (off:=i*2) (n:=xs.length+1-i) (c:=c-i) (cs:=R2) (src:=PV.cells (Md.enc a)) hH3 (bP (aG gw gw1 gw2 g2 hH hv gl)) rfl z7 z7 (bK (aG gw gw1 gw2 g2 hH hv gl)) dZ (λE v ho hE hv=>by
   have hv':aQ E.view v (.msl vid (0) (1) (1)):=by have:=hv;simp only[kC,seval,aE,gw,gw1,gw2,g2,hH,hv,gl]at this;exact this
   obtain⟨ad,rfl,arrs,r1,r2⟩:=kL (P:=Tryz.prog) (k:=1) (sz:=2) ho (by rw[hE];exact hv3) (by rw[hla];omega) hv';exact⟨_,ad,_,rfl,arrs,by rw[show Nat.min (1) (xs.length+1-i)=1 from by(try simp[Nat.min_def])<;>(try omega)];exact r1,by rw[aOh,List.take_of_length_le (by rw[hla];omega)]at r2;exact r2⟩) (nO a) (f4) ?_
  rw[List.set_set,f2];refine oN ?_;refine aV (aG gw gw1 gw2 g2 hH hv gl) ?_
  repeat refine wS ?_
  refine wT ⟨.inr rfl,_,rfl, ?_⟩;exact⟨id,c,_,rfl,aM4 hil,f5,hm, .inl rfl,zz,λj h1 h2=>aM5 (Ne.symm h2)⟩
 ·
  have gl:decide (((xs.length+1:Nat):Int)>(c:Int))=true:=decide_eq_true z8;refine eA 4 (aG y3 gw gw1 gw2 g2 hH (aS hv gl)) ?_;refine uK (id:=id) (off:=0) (n:=xs.length) (c:=c) rfl (bK (cF gw gw1 gw2 g2 hH hv)) (bP (cF gw gw1 gw2 g2 hH hv)) z7 rfl ?_;refine bH (aG y3 gw gw1 gw2 g2 hH (aS hv gl)) ?_;refine VV (aG gw gw1 gw2 g2 hH hv gl) ?_;refine eA 2 (aG gw gw1 gw2 g2 hH hv gl) ?_;refine pY (id:=id) (n:=xs.length) (c:=c) (kk:=.i64) (k:=i) (bP (aG gw gw1 gw2 g2 hH hv gl)) rfl z7 z7 dZ (bK (aG gw gw1 gw2 g2 hH hv gl)) (bK (aG gw gw1 gw2 g2 hH hv gl)) z8 ?_;refine DS 5 (aG y3 gw gw1 gw2 g2 hH (aS hv gl)) ?_;refine GH (id:=id) (n:=i) (c:=c) (k:=xs.length+1-i) (kk:=.i64) (cs:=R) hH (bP (aG gw gw1 gw2 g2 hH hv gl)) rfl z7 z7 (bK (aG gw gw1 gw2 g2 hH hv gl)) (bK (aG gw gw1 gw2 g2 hH hv gl)) z8 z8 hfitZ z7 (by show _*32<=_;omega) z8 dZ Tryz.underlying3 rJ rfl ?_;intro c1 rest1 hcc1 hcc2 hrest1;rw[show i+(xs.length+1-i)=xs.length+1 from by omega];replace hrest1:rest1.length=(c1-i)*2:=hrest1;rw[show R.take (i*(Prod.snd _:TI).sz)=aL ((xs.take i).map Md.enc)from hT];obtain⟨R1,R2,f1,f2,f3,f4,f5,f6⟩:=NG (enc:=Md.enc) (sz:=2) Md.enc_len (xs:=xs) (i:=i) z8 a hrest1 z8;obtain⟨R0,hR0⟩:∃R0,R0=aL ((xs.take i).map Md.enc)++rest1:=⟨_,rfl⟩;rw[<-hR0]at f1 f4;rw[<-hR0];have hn1:(H0++ [AObj.row R0])[H0.length]? =some (.row R0):=zz
  have hv1:(H0++ [AObj.row R0])[vid]? =some (.row (PV.cells (Md.enc a))):=by rw[aM0 hvl];exact hv
  refine bH (aG gw gw1 gw2 g2 hH hv gl) ?_;refine gQ [0,1,2,7,9] (aG gw gw1 gw2 g2 hH hv gl) ?_;refine eA 2 (aG gw gw1 gw2 g2 hH hv gl) ?_;refine fE (bP (aG gw gw1 gw2 g2 hH hv gl)) (dK (id:=H0.length) (n:=xs.length+1) (c:=c1) (k:=i) (kk:=.i64) rfl z7 z7 dZ (bK (aG gw gw1 gw2 g2 hH hv gl)) (bK (aG gw gw1 gw2 g2 hH hv gl)) z8 z8) ?_;refine DS 1 (aG gw gw1 gw2 g2 hH hv gl) ?_;refine kX (id:=H0.length) (off:=i*2) (n:=xs.length+1-i) (c:=c1-i) (cs:=R0) (src:=PV.cells (Md.enc a)) hn1 (bP (aG gw gw1 gw2 g2 hH hv gl)) rfl z7 z7 (bK (aG gw gw1 gw2 g2 hH hv gl)) dZ (λE v ho hE hv=>by
   have hv':aQ E.view v (.msl vid (0) (1) (1)):=by have:=hv;simp only[kC,seval,aE,gw,gw1,gw2,g2,hH,hv,gl]at this;exact this
   obtain⟨ad,rfl,arrs,r1,r2⟩:=kL (P:=Tryz.prog) (k:=1) (sz:=2) ho (by rw[hE];exact hv1) (by rw[hla];omega) hv';exact⟨_,ad,_,rfl,arrs,by rw[show Nat.min (1) (xs.length+1-i)=1 from by(try simp[Nat.min_def])<;>(try omega)];exact r1,by rw[aOh,List.take_of_length_le (by rw[hla];omega)]at r2;exact r2⟩) (nO a) (f4) ?_
  rw[f1,show ∀o,(H0++ [AObj.row R0]).set H0.length o=H0++ [o]from λo=>zz];have hn2:(H0++ [AObj.row R1])[H0.length]? =some (.row R1):=zz
  have hH2:(H0++ [AObj.row R1])[id]? =some (.row R):=by rw[aM0 hil];exact hH
  refine oN ?_
  repeat refine wS ?_
  refine dV 0 (by kernel_rfl) ?_;simp only[aOd,aN9];refine eZ 8 (bm:= [0,0,0,6,15,0,0,96,255]) (by kernel_rfl) z7 (by kernel_rfl) (by kernel_rfl) ?_;refine lY 4 (aG y3 gw gw1 gw2 g2 hH (aS hv gl)) ?_;refine lQ (zN (aG gw gw1 gw2 g2 hH hv gl)) (by rfl) (dK (id:=H0.length) (n:=xs.length+1) (c:=c1) (k:=i+1) (kk:=.i64) rfl z7 z7 dZ (bK (aG gw gw1 gw2 g2 hH hv gl)) (bK (aG gw gw1 gw2 g2 hH hv gl)) z8 z8) ?_;refine lY 2 (aG gw gw1 gw2 g2 hH hv gl) ?_;refine lQ (zN (aG gw gw1 gw2 g2 hH hv gl)) (by rfl) (dK (id:=id) (n:=xs.length) (c:=c) (k:=i) (kk:=.i64) rfl z7 z7 dZ (bK (aG gw gw1 gw2 g2 hH hv gl)) (bK (aG gw gw1 gw2 g2 hH hv gl)) z8 z8) ?_;refine iI (aG gw gw1 gw2 g2 hH hv gl) ?_;refine gJ (k:=8) (bm:= [0,0,0,6,15,0,0,96,255]) (by kernel_rfl) rfl (by kernel_rfl) (by kernel_rfl) ?_;refine kX (id:=H0.length) (off:=(i+1)*2) (n:=xs.length+1- (i+1)) (c:=c1- (i+1)) (cs:=R1) (src:=aL ((xs.drop i).map Md.enc)) hn2 (bP (aG gw gw1 gw2 g2 hH hv gl)) rfl z7 z7 (bK (aG gw gw1 gw2 g2 hH hv gl)) dZ (λE v ho hE hv=>by
   have hv':aQ E.view v (.msl id (i*2) (xs.length-i) (c-i)):=by have:=hv;simp only[kC,seval,aE,gw,gw1,gw2,g2,hH,hv,gl]at this;exact this
   obtain⟨ad,rfl,arrs,r1,r2⟩:=kL (P:=Tryz.prog) (k:=(xs.length-i)) (sz:=2) ho (by rw[hE];exact hH2) (hfitS) hv';exact⟨_,ad,_,rfl,arrs,by rw[show Nat.min (xs.length-i) (xs.length+1- (i+1))=(xs.length-i)from by(try simp[Nat.min_def])<;>(try omega)];exact r1,by rw[hsrc]at r2;exact r2⟩) (mO nO _) (f5) ?_
  refine oN ?_;show iP _ _ _ _ _ _ _ _;refine eV ?_;rw[f2,show ∀o,(H0++ [AObj.row R1]).set H0.length o=H0++ [o]from λo=>zz];refine aV (aG gw gw1 gw2 g2 hH hv gl) ?_
  repeat refine wS ?_
  refine wT ⟨.inr rfl,_,rfl, ?_⟩;exact⟨H0.length,c1,R2,rfl,zz,f3,hcc2, .inr (aMq _),zz,λj h1 h2=>aM0 h1⟩
theorem aKp(xs:List Int)(i:Nat)(hi:i<xs.length)(hl:xs.length<=1000000){rest:List PV}{id vid c:Nat}{a:Int}{H0:aH}(hH:H0[id]? =some (.row (aL (xs.map aE)++rest)))(hc:xs.length*1+rest.length=c*1)(hm:c<=maxLen)(hv:H0[vid]? =some (.row (PV.cells (aE a))))(hne:vid≠id):aR Tryz.prog 58 [.msl id 0 xs.length c,aE (i:Int), .msl vid 0 1 1] H0 λr H'=>∃ic c' rest',r= .msl ic 0 (xs.length+1) c'/\H'[ic]? =some (.row (aL ((xs.take i++a::xs.drop i).map aE)++rest'))/\(xs.length+1)*1+rest'.length=c'*1/\c'<=maxLen/\(ic=id\/H0.length<=ic)/\H0.length<=H'.length/\∀j,j<H0.length->j≠id->H'[j]? =H0[j]? :=by
 have hmx:maxLen=9223372036854775807:=z7
 have hil:=lG hH;have hvl:=lG hv;have hla:(PV.cells (aE a)).length=1:=qI a;have hsf:=DJ (enc:=aE) (sz:=1) qI (pre:= []) (rest:=rest) (xs:=xs) (j:=i) (c:=xs.length) z8 (aMq _);rw[xQ z8]at hsf;obtain⟨hsrc,hfitS⟩:=hsf;simp only[aN7,aOa,aNn]at hsrc hfitS;have lT:=pD (enc:=aE) (sz:=1) qI (xs:=xs) (i:=i) z8;have lR:(aL (xs.map aE)++rest).length=c*1:=by rw[aNo,fD qI];exact hc
 have hT:(aL (xs.map aE)++rest).take (i*1)=aL ((xs.take i).map aE):=by rw[mG xs i,aOe,<-lT,List.take_left]
 obtain⟨R,hR⟩:∃R,R=aL (xs.map aE)++rest:=⟨_,rfl⟩;rw[<-hR]at hH lR hT hsrc hfitS;have hk1:xs.length<=c:=z8
 have hfitZ:i*1<=R.length:=by rw[lR];omega
 have g2:decide (((i:Nat):Int)=((xs.length:Nat):Int))=false:=decide_eq_false z8;have gw:IntKind.i64.wrap (((xs.length:Nat):Int)+1)=((xs.length+1:Nat):Int):=by rw[cL z8 z8];omega
 have gw1:IntKind.i64.wrap (((i:Nat):Int)+1)=((i+1:Nat):Int):=by rw[cL z8 z8];omega
 have gw2:IntKind.i64.wrap (((xs.length+1:Nat):Int) - ((i:Nat):Int))=((xs.length+1-i:Nat):Int):=by rw[cL z8 z8];omega
 refine aF (N:=95) Tryz.func58 rfl rfl zz λhb'=> ?_;refine aV (cF gw gw1 gw2 g2 hH hv) ?_;refine eA 2 (cF gw gw1 gw2 g2 hH hv) ?_;refine fE (bP (cF gw gw1 gw2 g2 hH hv)) (dK (id:=id) (n:=xs.length) (c:=c) (k:=i) (kk:=.i64) rfl z7 z7 eD (bK (cF gw gw1 gw2 g2 hH hv)) (bK (cF gw gw1 gw2 g2 hH hv)) z8 z8) ?_;refine oN ?_;refine aV (aG y3 lW gw gw1 gw2 g2 (aS hH hv)) ?_;refine aV (aG y3 gw gw1 gw2 g2 hH hv) ?_;refine pJ (cF gw gw1 gw2 g2 hH hv) ?_
 repeat refine wS ?_
 refine wK ?_;refine aV (aG y3 lW gw gw1 gw2 g2 (aS hH hv)) ?_;refine aV (aG y3 gw gw1 gw2 g2 hH hv) ?_;refine pJ (cF gw gw1 gw2 g2 hH hv) ?_
 repeat refine wS ?_
 refine wK ?_;refine gQ [0,1,2,7,8] (cF gw gw1 gw2 g2 hH hv) ?_;rcases aMo xs.length c with hroom|hfull
 ·
  have gl:decide (((xs.length+1:Nat):Int)>(c:Int))=false:=decide_eq_false z8;refine eA 4 (aG y3 gw gw1 gw2 g2 hH (aS hv gl)) ?_;refine uK (id:=id) (off:=0) (n:=xs.length) (c:=c) rfl (bK (cF gw gw1 gw2 g2 hH hv)) (bP (cF gw gw1 gw2 g2 hH hv)) z7 rfl ?_;refine bH (aG y3 gw gw1 gw2 g2 hH (aS hv gl)) ?_;refine pJ (aG gw gw1 gw2 g2 hH hv gl) ?_
  repeat refine wS ?_
  refine wK ?_;refine eA 4 (aG y3 gw gw1 gw2 g2 hH (aS hv gl)) ?_;refine pY (id:=id) (n:=xs.length) (c:=c) (kk:=.i64) (k:=xs.length+1) (bP (aG gw gw1 gw2 g2 hH hv gl)) rfl z7 z7 eD (bK (aG gw gw1 gw2 g2 hH hv gl)) (bK (aG gw gw1 gw2 g2 hH hv gl)) z8 ?_;refine bH (aG gw gw1 gw2 g2 hH hv gl) ?_;refine eA 5 (aG y3 gw gw1 gw2 g2 hH (aS hv gl)) ?_;refine fE (bP (aG gw gw1 gw2 g2 hH hv gl)) (dK (id:=id) (n:=xs.length+1) (c:=c) (k:=i+1) (kk:=.i64) rfl z7 z7 eD (bK (aG gw gw1 gw2 g2 hH hv gl)) (bK (aG gw gw1 gw2 g2 hH hv gl)) z8 z8) ?_;refine uZ (ia:=vid) (ib:=id) (f:=79) (tR:=4) (bP (aG gw gw1 gw2 g2 hH hv gl)) rfl z7 z7 z7 (bK (aG gw gw1 gw2 g2 hH hv gl)) (bK (aG gw gw1 gw2 g2 hH hv gl)) (bK (aG gw gw1 gw2 g2 hH hv gl)) hne hv hH (by rintro rfl;simp at lR;omega) Tryz.func79 (by kernel_rfl) (by kernel_rfl) (by kernel_rfl) (by kernel_rfl) Tryz.underlying40 aJr ?_;refine bH (aG gw gw1 gw2 g2 hH hv gl) ?_;refine VV (aG gw gw1 gw2 g2 hH hv gl) ?_;refine gQ [0,1,2,7] (aG gw gw1 gw2 g2 hH hv gl) ?_;obtain⟨R2,f1,f2,f3,f4,f5,f6⟩:=MO (enc:=aE) (sz:=1) qI hi a hc hroom;rw[<-hR]at f1 f3
  repeat refine wS ?_
  refine dV 0 (by kernel_rfl) ?_;simp only[aOd,aN9];refine eZ 8 (bm:= [0,0,0,6,15,0,0,96,255]) (by kernel_rfl) z7 (by kernel_rfl) (by kernel_rfl) ?_;refine lY 4 (aG y3 gw gw1 gw2 g2 hH (aS hv gl)) ?_;refine lQ (zN (aG gw gw1 gw2 g2 hH hv gl)) (by rfl) (dK (id:=id) (n:=xs.length+1) (c:=c) (k:=i+1) (kk:=.i64) rfl z7 z7 eD (bK (aG gw gw1 gw2 g2 hH hv gl)) (bK (aG gw gw1 gw2 g2 hH hv gl)) z8 z8) ?_;refine lY 2 (aG gw gw1 gw2 g2 hH hv gl) ?_;refine lQ (zN (aG gw gw1 gw2 g2 hH hv gl)) (by rfl) (dK (id:=id) (n:=xs.length+1) (c:=c) (k:=i) (kk:=.i64) rfl z7 z7 eD (bK (aG gw gw1 gw2 g2 hH hv gl)) (bK (aG gw gw1 gw2 g2 hH hv gl)) z8 z8) ?_;refine iI (aG gw gw1 gw2 g2 hH hv gl) ?_;refine gJ (k:=8) (bm:= [0,0,0,6,15,0,0,96,255]) (by kernel_rfl) rfl (by kernel_rfl) (by kernel_rfl) ?_;refine kX (id:=id) (off:=(i+1)*1) (n:=xs.length+1- (i+1)) (c:=c- (i+1)) (cs:=R) (src:=aL ((xs.drop i).map aE)) hH (bP (aG gw gw1 gw2 g2 hH hv gl)) rfl z7 z7 (bK (aG gw gw1 gw2 g2 hH hv gl)) eD (λE v ho hE hv=>by
   have hv':aQ E.view v (.msl id (i*1) (xs.length+1-i) (c-i)):=by have:=hv;simp only[kC,seval,aE,gw,gw1,gw2,g2,hH,hv,gl]at this;exact this
   obtain⟨ad,rfl,arrs,r1,r2⟩:=kL (P:=Tryz.prog) (k:=(xs.length-i)) (sz:=1) ho (by rw[hE];exact hH) (hfitS) hv';exact⟨_,ad,_,rfl,arrs,by rw[show Nat.min (xs.length+1-i) (xs.length+1- (i+1))=(xs.length-i)from by(try simp[Nat.min_def])<;>(try omega)];exact r1,by rw[hsrc]at r2;exact r2⟩) (mO sJ _) (f3) ?_
  refine oN ?_;show iP _ _ _ _ _ _ _ _;refine eV ?_;rw[f1];have hH3:(H0.set id (.row R2))[id]? =some (.row R2):=aM4 hil;have hv3:(H0.set id (.row R2))[vid]? =some (.row (PV.cells (aE a))):=by rw[aM5 (Ne.symm hne)];exact hv
  refine eA 2 (aG gw gw1 gw2 g2 hH hv gl) ?_;refine fE (bP (aG gw gw1 gw2 g2 hH hv gl)) (dK (id:=id) (n:=xs.length+1) (c:=c) (k:=i) (kk:=.i64) rfl z7 z7 eD (bK (aG gw gw1 gw2 g2 hH hv gl)) (bK (aG gw gw1 gw2 g2 hH hv gl)) z8 z8) ?_;refine DS 1 (aG gw gw1 gw2 g2 hH hv gl) ?_;refine kX (id:=id) (off:=i*1) (n:=xs.length+1-i) (c:=c-i) (cs:=R2) (src:=PV.cells (aE a)) hH3 (bP (aG gw gw1 gw2 g2 hH hv gl)) rfl z7 z7 (bK (aG gw gw1 gw2 g2 hH hv gl)) eD (λE v ho hE hv=>by
   have hv':aQ E.view v (.msl vid (0) (1) (1)):=by have:=hv;simp only[kC,seval,aE,gw,gw1,gw2,g2,hH,hv,gl]at this;exact this
   obtain⟨ad,rfl,arrs,r1,r2⟩:=kL (P:=Tryz.prog) (k:=1) (sz:=1) ho (by rw[hE];exact hv3) (by rw[hla];omega) hv';exact⟨_,ad,_,rfl,arrs,by rw[show Nat.min (1) (xs.length+1-i)=1 from by(try simp[Nat.min_def])<;>(try omega)];exact r1,by rw[aOh,List.take_of_length_le (by rw[hla];omega)]at r2;exact r2⟩) (sJ a) (f4) ?_
  rw[List.set_set,f2];refine oN ?_;refine aV (aG gw gw1 gw2 g2 hH hv gl) ?_
  repeat refine wS ?_
  refine wT ⟨.inr rfl,_,rfl, ?_⟩;exact⟨id,c,_,rfl,aM4 hil,f5,hm, .inl rfl,zz,λj h1 h2=>aM5 (Ne.symm h2)⟩
 ·
  have gl:decide (((xs.length+1:Nat):Int)>(c:Int))=true:=decide_eq_true z8;refine eA 4 (aG y3 gw gw1 gw2 g2 hH (aS hv gl)) ?_;refine uK (id:=id) (off:=0) (n:=xs.length) (c:=c) rfl (bK (cF gw gw1 gw2 g2 hH hv)) (bP (cF gw gw1 gw2 g2 hH hv)) z7 rfl ?_;refine bH (aG y3 gw gw1 gw2 g2 hH (aS hv gl)) ?_;refine VV (aG gw gw1 gw2 g2 hH hv gl) ?_;refine eA 2 (aG gw gw1 gw2 g2 hH hv gl) ?_;refine pY (id:=id) (n:=xs.length) (c:=c) (kk:=.i64) (k:=i) (bP (aG gw gw1 gw2 g2 hH hv gl)) rfl z7 z7 eD (bK (aG gw gw1 gw2 g2 hH hv gl)) (bK (aG gw gw1 gw2 g2 hH hv gl)) z8 ?_;refine DS 5 (aG y3 gw gw1 gw2 g2 hH (aS hv gl)) ?_;refine GH (id:=id) (n:=i) (c:=c) (k:=xs.length+1-i) (kk:=.i64) (cs:=R) hH (bP (aG gw gw1 gw2 g2 hH hv gl)) rfl z7 z7 (bK (aG gw gw1 gw2 g2 hH hv gl)) (bK (aG gw gw1 gw2 g2 hH hv gl)) z8 z8 hfitZ z7 (by show _*8<=_;omega) z8 eD Tryz.underlying3 zX rfl ?_;intro c1 rest1 hcc1 hcc2 hrest1;rw[show i+(xs.length+1-i)=xs.length+1 from by omega];replace hrest1:rest1.length=(c1-i)*1:=hrest1;rw[show R.take (i*(Prod.snd _:TI).sz)=aL ((xs.take i).map aE)from hT];obtain⟨R1,R2,f1,f2,f3,f4,f5,f6⟩:=NG (enc:=aE) (sz:=1) qI (xs:=xs) (i:=i) z8 a hrest1 z8;obtain⟨R0,hR0⟩:∃R0,R0=aL ((xs.take i).map aE)++rest1:=⟨_,rfl⟩;rw[<-hR0]at f1 f4;rw[<-hR0];have hn1:(H0++ [AObj.row R0])[H0.length]? =some (.row R0):=zz
  have hv1:(H0++ [AObj.row R0])[vid]? =some (.row (PV.cells (aE a))):=by rw[aM0 hvl];exact hv
  refine bH (aG gw gw1 gw2 g2 hH hv gl) ?_;refine gQ [0,1,2,7,9] (aG gw gw1 gw2 g2 hH hv gl) ?_;refine eA 2 (aG gw gw1 gw2 g2 hH hv gl) ?_;refine fE (bP (aG gw gw1 gw2 g2 hH hv gl)) (dK (id:=H0.length) (n:=xs.length+1) (c:=c1) (k:=i) (kk:=.i64) rfl z7 z7 eD (bK (aG gw gw1 gw2 g2 hH hv gl)) (bK (aG gw gw1 gw2 g2 hH hv gl)) z8 z8) ?_;refine DS 1 (aG gw gw1 gw2 g2 hH hv gl) ?_;refine kX (id:=H0.length) (off:=i*1) (n:=xs.length+1-i) (c:=c1-i) (cs:=R0) (src:=PV.cells (aE a)) hn1 (bP (aG gw gw1 gw2 g2 hH hv gl)) rfl z7 z7 (bK (aG gw gw1 gw2 g2 hH hv gl)) eD (λE v ho hE hv=>by
   have hv':aQ E.view v (.msl vid (0) (1) (1)):=by have:=hv;simp only[kC,seval,aE,gw,gw1,gw2,g2,hH,hv,gl]at this;exact this
   obtain⟨ad,rfl,arrs,r1,r2⟩:=kL (P:=Tryz.prog) (k:=1) (sz:=1) ho (by rw[hE];exact hv1) (by rw[hla];omega) hv';exact⟨_,ad,_,rfl,arrs,by rw[show Nat.min (1) (xs.length+1-i)=1 from by(try simp[Nat.min_def])<;>(try omega)];exact r1,by rw[aOh,List.take_of_length_le (by rw[hla];omega)]at r2;exact r2⟩) (sJ a) (f4) ?_
  rw[f1,show ∀o,(H0++ [AObj.row R0]).set H0.length o=H0++ [o]from λo=>zz];have hn2:(H0++ [AObj.row R1])[H0.length]? =some (.row R1):=zz
  have hH2:(H0++ [AObj.row R1])[id]? =some (.row R):=by rw[aM0 hil];exact hH
  refine oN ?_
  repeat refine wS ?_
  refine dV 0 (by kernel_rfl) ?_;simp only[aOd,aN9];refine eZ 8 (bm:= [0,0,0,6,15,0,0,96,255]) (by kernel_rfl) z7 (by kernel_rfl) (by kernel_rfl) ?_;refine lY 4 (aG y3 gw gw1 gw2 g2 hH (aS hv gl)) ?_;refine lQ (zN (aG gw gw1 gw2 g2 hH hv gl)) (by rfl) (dK (id:=H0.length) (n:=xs.length+1) (c:=c1) (k:=i+1) (kk:=.i64) rfl z7 z7 eD (bK (aG gw gw1 gw2 g2 hH hv gl)) (bK (aG gw gw1 gw2 g2 hH hv gl)) z8 z8) ?_;refine lY 2 (aG gw gw1 gw2 g2 hH hv gl) ?_;refine lQ (zN (aG gw gw1 gw2 g2 hH hv gl)) (by rfl) (dK (id:=id) (n:=xs.length) (c:=c) (k:=i) (kk:=.i64) rfl z7 z7 eD (bK (aG gw gw1 gw2 g2 hH hv gl)) (bK (aG gw gw1 gw2 g2 hH hv gl)) z8 z8) ?_;refine iI (aG gw gw1 gw2 g2 hH hv gl) ?_;refine gJ (k:=8) (bm:= [0,0,0,6,15,0,0,96,255]) (by kernel_rfl) rfl (by kernel_rfl) (by kernel_rfl) ?_;refine kX (id:=H0.length) (off:=(i+1)*1) (n:=xs.length+1- (i+1)) (c:=c1- (i+1)) (cs:=R1) (src:=aL ((xs.drop i).map aE)) hn2 (bP (aG gw gw1 gw2 g2 hH hv gl)) rfl z7 z7 (bK (aG gw gw1 gw2 g2 hH hv gl)) eD (λE v ho hE hv=>by
   have hv':aQ E.view v (.msl id (i*1) (xs.length-i) (c-i)):=by have:=hv;simp only[kC,seval,aE,gw,gw1,gw2,g2,hH,hv,gl]at this;exact this
   obtain⟨ad,rfl,arrs,r1,r2⟩:=kL (P:=Tryz.prog) (k:=(xs.length-i)) (sz:=1) ho (by rw[hE];exact hH2) (hfitS) hv';exact⟨_,ad,_,rfl,arrs,by rw[show Nat.min (xs.length-i) (xs.length+1- (i+1))=(xs.length-i)from by(try simp[Nat.min_def])<;>(try omega)];exact r1,by rw[hsrc]at r2;exact r2⟩) (mO sJ _) (f5) ?_
  refine oN ?_;show iP _ _ _ _ _ _ _ _;refine eV ?_;rw[f2,show ∀o,(H0++ [AObj.row R1]).set H0.length o=H0++ [o]from λo=>zz];refine aV (aG gw gw1 gw2 g2 hH hv gl) ?_
  repeat refine wS ?_
  refine wT ⟨.inr rfl,_,rfl, ?_⟩;exact⟨H0.length,c1,R2,rfl,zz,f3,hcc2, .inr (aMq _),zz,λj h1 h2=>aM0 h1⟩
end Go.Abs
namespace Go.Abs
open Go.Proofs Go.Memo
theorem ZH(xs:List Md)(hl:xs.length<=1000000){a:Md}{cv:PV}{cid:List Nat}{H:aH}(hk:fV Md.enc 2 H cv xs cid):aR Tryz.prog 57 [cv,aE (xs.length:Int), .slice [Md.enc a] .none] H λr H'=>∃cid',fV Md.enc 2 H' r (xs++ [a]) cid'/\(∀i∈cid',i∈cid\/H.length<=i)/\H.length<=H'.length/\∀j,j<H.length->j∉cid->H'[j]? =H[j]? :=by
 have hmx:maxLen=9223372036854775807:=z7
 have g2:decide (((xs.length:Nat):Int)=((xs.length:Nat):Int))=true:=decide_eq_true rfl;refine aF (N:=95) Tryz.func57 rfl rfl zz λhb'=> ?_;refine aV g2 ?_;have hk0:=hk;rcases hk0.cases2 with⟨hxs,hcv,hcd⟩| ⟨id,c,rest,hcv,hcd,hH,hc,hm⟩
 ·
  have hn0:xs.length=0:=by rw[hxs];rfl
  rw[hn0]at g2⊢;have g3:decide ((0:Int)=0)=true:=rfl;have gE:∀k,(∀(e:PV),e∈([]:List PV)->e.cells.length=k)=True:=λk=>zz
  subst hcv;refine aV (cF lZ jI g2 g3 hn0 gE) ?_;refine aV (cF lZ jI g2 g3 hn0 gE) ?_;refine aV (bL y3 g2 g3 hn0 gE) ?_;refine pJ (bD g2 g3 hn0 gE) ?_
  repeat refine wS ?_
  refine wK ?_;refine aV (cF lZ jI g2 g3 hn0 gE) ?_;refine aV (bL y3 g2 g3 hn0 gE) ?_;refine VV (bD g2 g3 hn0 gE) ?_;refine gQ [0,2] (bD g2 g3 hn0 gE) ?_;refine eA 2 (bD g2 g3 hn0 gE) ?_;refine dX (enc:=Md.enc) (sz:=2) Md.enc_len nO z7 (cv:=.slice [] .full) (xs:=xs) (a:=a) (cid:=cid) (bP g2) rfl z7 z7 (bK g2) (bK g2) hk dZ rfl (by show(_+1)*32<=_;omega) z8 (by rw[dZ];rfl) rJ rfl ?_;intro cv5 cid5 H5 hk5 hi5 hl5 hs5;refine bH (bD g2 g3 hn0 gE) ?_
  repeat refine wS ?_
  refine wT ⟨.inr rfl,_,rfl, ?_⟩;exact⟨cid5,hk5,hi5,hl5,hs5⟩
 ·
  have hn:xs.length<=c:=by
   rcases aMo c xs.length with h|h
   ·have:=Nat.mul_lt_mul_of_pos_right h (by decide:0<2);omega
   ·exact h
  subst hcv;refine eA 2 g2 ?_;refine fE (bP g2) (jW (lo:=(some (.tmp 11))) (hi:=none) (mx:=none) (l:=xs.length) (h:=xs.length) (m:=c) rfl z7 dZ (bK g2) (⟨z7,bK g2⟩) (rfl) (rfl) zz z8 z8 z8) ?_;refine oN ?_;refine aV (bR lZ jI g2) ?_;refine aV (aS y3 g2) ?_;refine pJ g2 ?_
  repeat refine wS ?_
  refine wK ?_;refine aV (bR lZ jI g2) ?_;refine aV (aS y3 g2) ?_;refine VV g2 ?_;refine gQ [0,2] g2 ?_;refine eA 2 g2 ?_;refine dX (enc:=Md.enc) (sz:=2) Md.enc_len nO z7 (cv:=.msl id 0 xs.length c) (xs:=xs) (a:=a) (cid:=cid) (bP g2) rfl z7 z7 (bK g2) (bK g2) hk dZ rfl (by show(_+1)*32<=_;omega) z8 (by rw[dZ];rfl) rJ rfl ?_;intro cv5 cid5 H5 hk5 hi5 hl5 hs5;refine bH g2 ?_
  repeat refine wS ?_
  refine wT ⟨.inr rfl,_,rfl, ?_⟩;exact⟨cid5,hk5,hi5,hl5,hs5⟩
theorem aCt(xs:List Int)(hl:xs.length<=1000000){a:Int}{cv:PV}{cid:List Nat}{H:aH}(hk:fV aE 1 H cv xs cid):aR Tryz.prog 58 [cv,aE (xs.length:Int), .slice [aE a] .none] H λr H'=>∃cid',fV aE 1 H' r (xs++ [a]) cid'/\(∀i∈cid',i∈cid\/H.length<=i)/\H.length<=H'.length/\∀j,j<H.length->j∉cid->H'[j]? =H[j]? :=by
 have hmx:maxLen=9223372036854775807:=z7
 have g2:decide (((xs.length:Nat):Int)=((xs.length:Nat):Int))=true:=decide_eq_true rfl;refine aF (N:=95) Tryz.func58 rfl rfl zz λhb'=> ?_;refine aV g2 ?_;have hk0:=hk;rcases hk0.cases2 with⟨hxs,hcv,hcd⟩| ⟨id,c,rest,hcv,hcd,hH,hc,hm⟩
 ·
  have hn0:xs.length=0:=by rw[hxs];rfl
  rw[hn0]at g2⊢;have g3:decide ((0:Int)=0)=true:=rfl;have gE:∀k,(∀(e:PV),e∈([]:List PV)->e.cells.length=k)=True:=λk=>zz
  subst hcv;refine aV (cF y3 lW g2 g3 hn0 gE) ?_;refine aV (cF y3 lW g2 g3 hn0 gE) ?_;refine aV (bL y3 g2 g3 hn0 gE) ?_;refine pJ (bD g2 g3 hn0 gE) ?_
  repeat refine wS ?_
  refine wK ?_;refine aV (cF y3 lW g2 g3 hn0 gE) ?_;refine aV (bL y3 g2 g3 hn0 gE) ?_;refine VV (bD g2 g3 hn0 gE) ?_;refine gQ [0,2] (bD g2 g3 hn0 gE) ?_;refine eA 2 (bD g2 g3 hn0 gE) ?_;refine dX (enc:=aE) (sz:=1) qI sJ z7 (cv:=.slice [] .full) (xs:=xs) (a:=a) (cid:=cid) (bP g2) rfl z7 z7 (bK g2) (bK g2) hk eD rfl (by show(_+1)*8<=_;omega) z8 (by rw[eD];rfl) zX rfl ?_;intro cv5 cid5 H5 hk5 hi5 hl5 hs5;refine bH (bD g2 g3 hn0 gE) ?_
  repeat refine wS ?_
  refine wT ⟨.inr rfl,_,rfl, ?_⟩;exact⟨cid5,hk5,hi5,hl5,hs5⟩
 ·
  have hn:xs.length<=c:=by
   rcases aMo c xs.length with h|h
   ·have:=Nat.mul_lt_mul_of_pos_right h (by decide:0<1);omega
   ·exact h
  subst hcv;refine eA 2 g2 ?_;refine fE (bP g2) (jW (lo:=(some (.tmp 11))) (hi:=none) (mx:=none) (l:=xs.length) (h:=xs.length) (m:=c) rfl z7 eD (bK g2) (⟨z7,bK g2⟩) (rfl) (rfl) zz z8 z8 z8) ?_;refine oN ?_;refine aV (bR y3 lW g2) ?_;refine aV (aS y3 g2) ?_;refine pJ g2 ?_
  repeat refine wS ?_
  refine wK ?_;refine aV (bR y3 lW g2) ?_;refine aV (aS y3 g2) ?_;refine VV g2 ?_;refine gQ [0,2] g2 ?_;refine eA 2 g2 ?_;refine dX (enc:=aE) (sz:=1) qI sJ z7 (cv:=.msl id 0 xs.length c) (xs:=xs) (a:=a) (cid:=cid) (bP g2) rfl z7 z7 (bK g2) (bK g2) hk eD rfl (by show(_+1)*8<=_;omega) z8 (by rw[eD];rfl) zX rfl ?_;intro cv5 cid5 H5 hk5 hi5 hl5 hs5;refine bH g2 ?_
  repeat refine wS ?_
  refine wT ⟨.inr rfl,_,rfl, ?_⟩;exact⟨cid5,hk5,hi5,hl5,hs5⟩
end Go.Abs
namespace Go.Abs
open Go.Proofs Go.Memo Go.RowKit
theorem TT(s p:List UInt8):PC Tryz.prog 56 [.str s, .str p] (aE (Lib.compareBytes s p)):=λH=>by
 refine rO λE vargs ho hH hrl=> ?_;obtain⟨v0,v1,rfl,h0,h1⟩:=QG hrl;cases h0 with
 |str z=>cases h1 with
  |str y=>exact⟨_,aQ.int _ _,(Tryz.strings_Compare z y E.w).mono λe w' ⟨h1,h2⟩=>⟨h1,h2▸Below.refl _ _⟩⟩
theorem WT{P:Program}{N:Nat}{o:Oper}{T:aJ}{t t':TypeId}{x y:Operand}{m:Nat}(hop:o.op= .binOp .shr t x y t')(okx:aU N x=true)(oky:aU N y=true)(hx:bS T x= .int .u64 (m:Int))(hy:bS T y= .int .u64 1)
  (E:aK) (a:Act) (ho:E.Ok) (hvs:∀x∈o.op.operands.toList,aU N x=true->aQ E.view (a.eval x) (bS T x)):∃val,(execOp a.eval o).run P E.w= .ok (.value val) E.w/\aQ E.view val (.int .u64 ((m/2:Nat):Int)):=by
 have rx:=hvs x (by rw[hop];simp[Op.operands]) okx;have ry:=hvs y (by rw[hop];simp[Op.operands]) oky;rw[hx]at rx;rw[hy]at ry;have vx:=rx.int_inv;have vy:=ry.int_inv;have hd:(m:Int).fdiv (2^min (Int.toNat 1) IntKind.u64.bits)=((m/2:Nat):Int):=by
  rw[show min (Int.toNat 1) IntKind.u64.bits=1 from by decide,Int.pow_succ,Int.pow_zero,Int.one_mul,Int.fdiv_eq_ediv_of_nonneg _ z7];rfl
 refine⟨.int .u64 ((m/2:Nat):Int), ?_, .int _ _⟩;unfold execOp;rw[hop];simp only[aM9,vx,vy,eqGuard_at_int,aNc,aNa,binOp,Op.shift];rw[if_neg z7,hd];rfl
theorem MP(m:Md)(name:List UInt8):PC Tryz.prog 55 [m.enc, .str name] (aE (Lib.compareBytes m.name name)):=by
 refine kG (N:=9) Tryz.func55 rfl rfl zz (by simp[Md.bel,bF.str]) (.int _ _) ?_;refine aV (aS jI qM) ?_;refine eA 3 (bR y9 jI qM) ?_;refine qT qM aJ4 (TT _ _ _) ?_;refine bH qM ?_
 repeat refine wS ?_
 refine wT ⟨.inr rfl,_,rfl, ?_⟩;simp only[jN,seval,aE,qM]
 try rfl
theorem SZ(xs:List Md)(name:List UInt8){cv:PV}{cid:List Nat}{H:aH}(hk:fV Md.enc 2 H cv xs cid)(hl:xs.length<=1000000)(p:Nat)(hp:p<=xs.length)(h1:∀j (h:j<xs.length),j<p->Lib.compareBytes xs[j].name name<0)(h2:∀j (h:j<xs.length),p<=j->¬Lib.compareBytes xs[j].name name<0):aR Tryz.prog 54 [cv, .str name, .fn (.func 55) [] []] H λr H'=>(∃b,r= .tup [aE (p:Int), .bool b])/\H'=H:=by
 refine aF (N:=49) Tryz.func54 rfl rfl zz λhb'=> ?_;refine aV qM ?_;rcases hk.cases2 with⟨hxs,hcv,hcd⟩| ⟨id,c,rest,hcv,hcd,hH,hc,hm⟩
 ·
  subst hxs;subst hcv;obtain rfl:p=0:=by simpa using hp
  refine aV (bD lZ jI qM @EQ) ?_;refine aV (aS qM @EQ) ?_
  repeat refine wS ?_
  refine bJ ?_;refine fF (σ:=Nat×Nat) (λ(z:Nat×Nat)=> [(0, .slice [] .full),(1, .str name),(2, .fn (.func 55) [] []),(8,aE ((0:Nat):Int)),(9,aE (z.1:Int)),(10,aE (z.2:Int))]) (λ(z:Nat×Nat)=>λH1=>z.1<=0/\0<=z.2/\z.2<=0/\H1=H) (λ(z:Nat×Nat)=>z.2-z.1) ((0,0)) ⟨(dJ (aS qM @EQ)),(dJ (aS qM @EQ)),(dJ (aS qM @EQ)),(dJ (aS qM @EQ)),(dJ (aS qM @EQ)),(dJ (aS qM @EQ)),trivial⟩ (⟨aMq _,aMq _,aMq _,rfl⟩) ?_;intro z H1 hg;obtain⟨i,j⟩:=z;obtain⟨hi,hj,hjn,hHe⟩:=hg;simp only[aOa]at hi hj hjn;subst hHe;obtain rfl:i=0:=z8
  obtain rfl:j=0:=z8
  have gl:decide (((0:Nat):Int)<((0:Nat):Int))=false:=rfl;refine aV (bD y3 qM @EQ gl) ?_;refine pJ (bR qM @EQ gl) ?_
  repeat refine wS ?_
  refine dO ?_;simp only[bQ,cB,reduceIte,Nat.reduceEqDiff,aOf,if_true,if_false]
  repeat refine wS ?_
  refine wR ?_;refine eN ?_;refine yL 5 (bD y3 qM @EQ gl) ?_;refine oO (bR qM @EQ gl) ?_;refine oO (bR qM @EQ gl) ?_;refine oO (bR qM @EQ gl) ?_;refine oO (bR qM @EQ gl) ?_;refine oO (bR qM @EQ gl) ?_;refine oO (bR qM @EQ gl) ?_;refine oO (bR qM @EQ gl) ?_;refine oO (bR qM @EQ gl) ?_;refine DM (bR qM @EQ gl) ?_
  repeat refine wS ?_
  refine wT ⟨.inr rfl,_,(bI (.tmp 6) (.tmp 7) rfl (aM z7) (aM z7)), ?_⟩;exact⟨⟨_,rfl⟩,rfl⟩
 ·
  subst hcv;refine aV (bR lZ jI qM) ?_;refine aV qM ?_
  repeat refine wS ?_
  refine bJ ?_;refine fF (σ:=Nat×Nat) (λ(z:Nat×Nat)=> [(0, .msl id 0 xs.length c),(1, .str name),(2, .fn (.func 55) [] []),(8,aE (xs.length:Int)),(9,aE (z.1:Int)),(10,aE (z.2:Int))]) (λ(z:Nat×Nat)=>λH2=>z.1<=p/\p<=z.2/\z.2<=xs.length/\H2=H) (λ(z:Nat×Nat)=>z.2-z.1) ((0,xs.length)) ⟨(dJ qM),(dJ qM),(dJ qM),(dJ qM),(dJ qM),(dJ qM),trivial⟩ (⟨aNs _,hp,aMq _,rfl⟩) ?_;intro z H2 hg;obtain⟨i,j⟩:=z;obtain⟨hi,hj,hjn,hHe⟩:=hg;simp only at hi hj hjn;subst hHe;have gl:decide ((i:Int)<(j:Int))=decide (i<j):=by rw[decide_eq_decide];omega
  have gw:IntKind.i64.wrap ((i:Int)+(j:Int))=((i+j:Nat):Int):=by rw[cL z8 z8];omega
  have gu:IntKind.u64.wrap ((i+j:Nat):Int)=((i+j:Nat):Int):=by unfold IntKind.wrap;simp only[IntKind.signed,IntKind.bits,Bool.false_and,aNh,if_false];omega
  obtain⟨h,hh⟩:∃h,h=(i+j) /2:=⟨_,rfl⟩;have gh:IntKind.i64.wrap (((i+j) /2:Nat):Int)=(h:Int):=by rw[cL z8 z8,hh]
  have gh1:IntKind.i64.wrap ((h:Int)+1)=((h+1:Nat):Int):=by rw[cL z8 z8];omega
  refine aV (aG y3 qM gl gw gu gh (bR gh1 nH fL)) ?_;refine gG (aG qM gl gw gu gh gh1 (aS nH fL)) (λbt17=> ?_) (λbt17=> ?_)
  ·
   have hlt:i<j:=of_decide_eq_true bt17;have hhl:h<xs.length:=z8
   have gix:((0:Int)<=(h:Int)/\(h:Int)<(xs.length:Int))=True:=by simp;omega
   obtain⟨ge,gf⟩:=xV (enc:=Md.enc) (sz:=2) Md.enc_len (pre:= []) (rest:=rest) hhl;simp only[aN7,aOa,aNn,aNo]at ge gf;have gf2:(h*2+2<=(aL (xs.map Md.enc)).length+rest.length)=True:=eq_true gf;obtain⟨m,hm'⟩:∃m,m=xs[h]:=⟨_,rfl⟩;rw[<-hm',Md.enc_cells]at ge
   repeat refine wS ?_
   refine wK ?_
   repeat refine wS ?_
   refine bJ ?_;refine eA 4 (aG y3 aHt qM gl gw gu (bD gh gh1 nH fL)) ?_;refine fE (bP (cF qM gl gw gu nH fL)) (WT (m:=i+j) rfl z7 z7 (bK (cF qM gl gw gu nH fL)) rfl) ?_;refine bH (aG y3 aHt qM gl gw gu (bD gh gh1 nH fL)) ?_;refine eA 6 (aG lZ jI qM gl gw gu (aG gh gh1 nH fL gix gf2 (bR ge hH zqA))) ?_;refine qT (aG qM gl gw gu gh gh1 (aG nH fL gix gf2 ge hH zqA)) aDn (MP m name _) ?_;refine bH (aG y3 qM gl gw gu gh (aG gh1 nH fL gix gf2 ge (aS hH zqA))) ?_;refine gG (aG qM gl gw gu gh gh1 (aS nH fL)) (λbt31=> ?_) (λbt31=> ?_)
   ·
    have hc1:Lib.compareBytes xs[h].name name<0:=by rw[<-hm'];exact of_decide_eq_true bt31
    have hhp:h<p:=by
     rcases aMo h p with q|q
     ·exact q
     ·exact absurd hc1 (h2 h hhl q)
    refine gQ [0,1,2,8,9,10,11] (aG qM gl gw gu gh gh1 (aS nH fL)) ?_;refine aV (aG y3 qM gl gw gu gh (bR gh1 nH fL)) ?_
    try simp only[bQ,cB]
    exact⟨(h+1,j),by show _<_;omega,(by repeat (first|exact trivial|refine⟨rfl, ?_⟩)),z8,hj,hjn,(by first|rfl|trivial)⟩
   ·
    have hc1:¬Lib.compareBytes xs[h].name name<0:=by rw[<-hm'];exact of_decide_eq_false bt31
    have hhp:p<=h:=by
     rcases aMo h p with q|q
     ·exact absurd (h1 h hhl q) hc1
     ·exact q
    refine gQ [0,1,2,8,9,10,11] (aG qM gl gw gu gh gh1 (aS nH fL)) ?_;refine aV (aG qM gl gw gu gh gh1 (aS nH fL)) ?_
    try simp only[bQ,cB]
    exact⟨(i,h),by show _<_;omega,(by repeat (first|exact trivial|refine⟨rfl, ?_⟩)),hi,hhp,z8,(by first|rfl|trivial)⟩
  ·
   have hge:=of_decide_eq_false bt17;obtain rfl:i=p:=z8
   obtain rfl:j=i:=z8
   repeat refine wS ?_
   refine dO ?_;simp only[bQ,cB,reduceIte,Nat.reduceEqDiff,aOf,if_true,if_false];rcases aMo j xs.length with hpn|hpn
   ·
    have gpn:decide ((j:Int)<(xs.length:Int))=true:=decide_eq_true z8;have gix:((0:Int)<=(j:Int)/\(j:Int)<(xs.length:Int))=True:=by simp;omega
    obtain⟨ge,gf⟩:=xV (enc:=Md.enc) (sz:=2) Md.enc_len (pre:= []) (rest:=rest) hpn;simp only[aN7,aOa,aNn,aNo]at ge gf;have gf2:(j*2+2<=(aL (xs.map Md.enc)).length+rest.length)=True:=eq_true gf;obtain⟨m,hm1⟩:∃m,m=xs[j]:=⟨_,rfl⟩;rw[<-hm1,Md.enc_cells]at ge;refine eA 11 (aG y3 lZ jI qM gl gw (aG gu gh gh1 nH fL gpn (bL gix gf2 ge hH zqA))) ?_;refine qT (aG qM gl gw gu gh gh1 (aG nH fL gpn gix gf2 ge (aS hH zqA))) aDn (MP m name _) ?_;refine bH (aG y3 qM gl gw gu gh (aG gh1 nH fL gpn gix gf2 (bR ge hH zqA))) ?_
    repeat refine wS ?_
    refine wT ⟨.inr rfl,_,(bI (.tmp 6) (.tmp 7) rfl (aM z7) (aM z7)), ?_⟩;exact⟨⟨_,rfl⟩,rfl⟩
   ·
    have gpn:decide ((j:Int)<(xs.length:Int))=false:=decide_eq_false z8
    repeat refine wS ?_
    refine wR ?_;refine eN ?_;refine yL 5 (aG y3 qM gl gw gu gh (bD gh1 nH fL gpn)) ?_;refine oO (aG qM gl gw gu gh gh1 (bR nH fL gpn)) ?_;refine oO (aG qM gl gw gu gh gh1 (bR nH fL gpn)) ?_;refine oO (aG qM gl gw gu gh gh1 (bR nH fL gpn)) ?_;refine oO (aG qM gl gw gu gh gh1 (bR nH fL gpn)) ?_;refine oO (aG qM gl gw gu gh gh1 (bR nH fL gpn)) ?_;refine oO (aG qM gl gw gu gh gh1 (bR nH fL gpn)) ?_;refine oO (aG qM gl gw gu gh gh1 (bR nH fL gpn)) ?_;refine oO (aG qM gl gw gu gh gh1 (bR nH fL gpn)) ?_;refine DM (aG qM gl gw gu gh gh1 (bR nH fL gpn)) ?_
    repeat refine wS ?_
    refine wT ⟨.inr rfl,_,(bI (.tmp 6) (.tmp 7) rfl (aM z7) (aM z7)), ?_⟩;exact⟨⟨_,rfl⟩,rfl⟩
end Go.Abs
namespace Go.Abs
open Go.Proofs Go.Memo
theorem aH4{fresh:Nat}{H:aH}{q:List Int}{a b:Int}{id:Nat}{tl:bE}(hH:H[id]? =some (.buf q.length 1))(hq:q.length<=1000000):
  cK ⟨false,1,8⟩ fresh H (.slice (q.map aE) (.tok id)) (.slice [aE a,aE b] tl)=some (.slice ((q++ [a,b]).map aE) (.tok id),some (id, .buf (q++ [a,b]).length 1)):=by
 have em:maxLen=9223372036854775807:=z7
 unfold cK;simp only[reduceCtorEq,if_false,aM7,aOa,aNn,aMw];rw[if_pos ⟨by show _*8<=_;omega,z8,λe he=>by obtain⟨v,_,rfl⟩:=aNy.1 he;rfl,λe he=>by simp only[aN2,aOc,or_false]at he;rcases he with rfl|rfl<;>exact⟨rfl,rfl⟩,z7⟩];simp only[hH];simp
theorem MH(n id:Nat)(q:List Int)(h:id<n):bF n (.slice (q.map aE) (.tok id)):=by
 have:=bM n q;cases this with
 |slice _ _ h1 h2=>exact .slice _ _ h1 (λ_ e=>by cases e;exact h)
theorem zA(ms:List Md)(i:Nat)(a:Int):((ms.take i).flatMap (λm=> [(m.src.length:Int),a])).length<=2*ms.length:=by
 have h:∀l:List Md,(l.flatMap (λm=> [(m.src.length:Int),a])).length=2*l.length:=λl=>by
  induction l with
  |nil=>rfl
  |cons m l ih=>rw[List.flatMap_cons,aNo,ih];simp;omega
 rw[h,aNe];omega
def vF(q:Int):Bool:=decide (q=2)||decide (q=3)
def mX(ms:List Md)(name:List UInt8):List UInt8:=(ms.getD (cN (aO name) ms).toNat ⟨[],[]⟩).src
def eI(ms:List Md)(r:Rq):Rs:=
 if(decide (cN (aO r.name) ms<0)||decide (r.arg<0))=true then⟨0,0,1,0,[],[]⟩
 else if vF r.q=true then⟨0,0,0,0,[r.q,((mX ms r.name).length:Int)],(mX ms r.name).take (min ((mX ms r.name).length:Int) r.arg).toNat⟩
 else⟨0,0,0,0,ms.flatMap λm=> [(m.src.length:Int),r.arg],r.name⟩
theorem wQ(ms:List Md)(name:List UInt8)(hx:ms.length<=maxLen):PC Tryz.prog 18 [.slice (ms.map Md.enc) .none, .str name] (aE (cN (aO name) ms)):=by
 refine kG (N:=20) Tryz.func18 rfl rfl zz (by simp[fP,bF.str]) (.int _ _) ?_;refine aV qM ?_;refine aV (bR lZ jI qM) ?_
 repeat refine wS ?_
 refine iQ (σ:=Unit) (ms.length) (λ(s:Unit)=> [(7, .slice (ms.map Md.enc) .none),(1, .str name)]) [7,1] ([]) (λ(s:Unit)=> []) (λ(i:Nat) (s:Unit)=>(ms.take i).any (aO name)=false) (()) ([]) rfl rfl rfl rfl rfl rfl rfl rfl rfl z7 z7 z7 (λ_=>rfl) (hx) ⟨(dJ qM),(dJ qM),(dJ qM),(dJ qM),trivial⟩ (dJ qM) zz (λ_ _ _=>by first|exact aNs _| (simp only[aNo];omega)) ?_ ?_ ?_
 ·exact λi s hg=>⟨by first|exact dN _| (simp only[aN9];assumption)| (refine kI hb' zz ?_;repeat (first|exact dN _|exact trivial|exact eK _| (refine iJ.cons ?_ ?_)| (refine dT (by first|exact Md.bel _ _|exact Rq.bel _ _|exact Rs.bel _ _|exact Te.bel _ _|exact fP _ _|exact gK _ _|exact jV _ _|exact jQ _ _|exact bM _ _|exact eX _ _ _ _|exact eF _ _ _|exact bF.int _ _|exact bF.bool _|exact bF.str _|exact bF.nilp|exact bF.nilfn|exact bF.optr _ _ zz|exact cM _|exact cP _|exact cV _ _|assumption) ?_))),by repeat (first|exact jJ.nil|refine jJ.cons (by first|exact Md.bel _ _|exact Rq.bel _ _|exact Rs.bel _ _|exact Te.bel _ _|exact fP _ _|exact gK _ _|exact jV _ _|exact jQ _ _|exact bM _ _|exact eX _ _ _ _|exact eF _ _ _|exact bF.int _ _|exact bF.bool _|exact bF.str _|exact bF.nilp|exact bF.nilfn|exact bF.optr _ _ zz|exact cM _|exact cP _|exact cV _ _|assumption) ?_)⟩
 ·intro i s hi hg;have g1:=fS hi;have g2:=dF Md.enc hi;refine aV (cF lZ jI qM g1 g2 Md.enc_len) ?_;refine aV (cF y9 jI qM g1 g2 Md.enc_len) ?_;refine gG (bD qM g1 g2 Md.enc_len) (λb0=> ?_) (λb0=> ?_)
  ·
   refine aV (bD qM g1 g2 Md.enc_len) ?_
   repeat refine wS ?_
   refine wT ⟨.inr rfl,_,rfl, ?_⟩;have h17:aO name ms[i]=true:=b0;rw[oQ hi h17 hg];rfl
  ·
   repeat refine wS ?_
   refine wK ?_;have h17:aO name ms[i]=false:=b0;exact⟨⟨rfl,rfl,trivial⟩,(),_,⟨rfl,rfl,trivial⟩,rfl,iG hi hg h17⟩
 ·intro s hg;rw[aOj]at hg;refine aV qM ?_
  repeat refine wS ?_
  refine wT ⟨.inr rfl,_,rfl, ?_⟩;rw[nR hg];rfl
theorem UD(q:Int):PC Tryz.prog 42 [aE q] (.bool (vF q)):=by
 refine kG (N:=9) Tryz.func42 rfl rfl zz (by simp[bF.int,aE]) (.bool _) ?_;refine aV qM ?_;refine tJ (aS y3 qM) ?_
 repeat refine wS ?_
 refine wT ⟨.inr rfl,_,rfl, ?_⟩;simp only[jN,seval,aE,qM]
 try rfl
theorem NK(ms:List Md)(r:Rq)(hx:ms.length<=400000):PC Tryz.prog 6 [.slice (ms.map Md.enc) .none,r.enc] (eI ms r).enc:=by
 have em:maxLen=9223372036854775807:=z7
 have hb1:=Rs.bel 0 (eI ms r);refine kG (N:=69) Tryz.func6 rfl rfl zz (by simp[fP,Rq.bel]) hb1 ?_;unfold eI;refine aV (bL jH qO qM qR qW) ?_;refine eA 3 (bL y9 jH qM qR qW) ?_;refine qT (bR qM qR qW) KJ (wQ ms r.name z8 _) ?_;refine bH (bR qM qR qW) ?_;refine tJ (bL y3 jH qM qR qW) ?_;refine gG (bR qM qR qW) (λbt20=> ?_) (λbt20=> ?_)
 ·
  rw[if_pos bt20];refine aV (bD qO qM qR qW) ?_
  repeat refine wS ?_
  refine wT ⟨.inr rfl,_,(gI 4 60 rfl CB z7 (JA (bR qM qR qW))), ?_⟩;rfl
 ·
  rw[if_neg (by rw[bt20];simp)];have hge:0<=cN (aO r.name) ms/\0<=r.arg:=by simp only[Bool.or_eq_false_iff,decide_eq_false_iff_not]at bt20;omega
  have hlt:=rZ hge.1;obtain⟨k,hk⟩:∃k:Nat,cN (aO r.name) ms=(k:Int):=⟨(cN (aO r.name) ms).toNat,z8⟩;have hkl:k<ms.length:=z8
  have gk:=fS hkl;have ge:=dF Md.enc hkl;obtain⟨n,hn⟩:∃n:Nat,r.arg=(n:Int):=⟨r.arg.toNat,z8⟩;have hsa:mX ms r.name=ms[k].src:=by unfold mX;rw[hk,tN,aNj,aNi hkl];rfl
  rw[hsa];obtain⟨src,hsrc⟩:∃src,src=ms[k].src:=⟨_,rfl⟩;rw[<-hsrc];obtain⟨nm,hnm⟩:∃nm,nm=ms[k].name:=⟨_,rfl⟩;rw[show Md.enc ms[k]= .agg [.str nm, .str src]from by rw[hnm,hsrc];rfl]at ge
  repeat refine wS ?_
  refine wK ?_;refine aV (aG y9 lZ jI qM qR qW (bR hk gk ge)) ?_;refine gQ [0,3,4,6] (bR qM qR qW) ?_;refine tJ (bL y3 jH qM qR qW) ?_;refine gG (bR qM qR qW) (λbt34=> ?_) (λbt34=> ?_)
  ·
   rw[if_pos (show vF r.q=true from bt34)];have gmn:min (src.length:Int) r.arg=((min src.length n:Nat):Int):=z8
   have gmb:(0<=((min src.length n:Nat):Int)/\((min src.length n:Nat):Int)<=(src.length:Int))=True:=by simp;omega
   repeat refine wS ?_
   refine iU 0 rfl (by kernel_rfl) ?_;refine eP 13 rfl (DQ (aG y3 y9 jH lW qO jS (bL qM qR qW gmn gmb))) z7 z7 z7 ?_;refine mR (by first| (simp only[LS,HS,aOe,aMl,aN7,gmn,gmb,tN]<;>with_reducible rfl)|rfl) ?_;refine iO (bm:= [0,1,0,4,15,0,0,64,0,256,960,2016,4095,8191]) (fresh:=0) (by kernel_rfl) (JW (cF qO qM qR qW gmn gmb)) z7 (by repeat (first|exact fT.base _|with_reducible apply fT.keep|apply fT.drop)) ?_
   repeat refine wS ?_
   refine wT ⟨.inr rfl,_,(gI 4 60 rfl CB z7 (JA (bR qM qR qW))), ?_⟩;rw[gmn,tN];rfl
  ·
   rw[if_neg (by rw[show vF r.q=false from bt34];simp)]
   repeat refine wS ?_
   refine wK ?_;refine aV (cF y9 jH qO qM qR qW) ?_;refine aV (bL lZ jI qM qR qW) ?_
   repeat refine wS ?_
   refine EL 2 4 1 (EY (bR qM qR qW)) rfl ?_;refine iQ (σ:=List Int) (ms.length) (λ(q:List Int)=> [(3, .optr 0 0),(4, .optr 1 0),(7, .optr 2 0),(51, .slice (ms.map Md.enc) .none)]) [3,4,7,51] ([]) (λ(q:List Int)=> [.row [.int .i64 r.cl, .int .i64 r.id, .int .i64 r.q, .int .i64 r.arg, .str r.name], .row [.int .i64 0, .int .i64 0, .int .i64 0, .int .i64 0, .slice [] .full, .str []], .row [.int .i64 0, .int .i64 0, .int .i64 0, .int .i64 0, .slice (q.map aE) (.tok 3), .str r.name], .buf q.length 1]) (λ(i:Nat) (q:List Int)=>q=(ms.take i).flatMap (λm=> [(m.src.length:Int),r.arg])) ([]) (_) rfl rfl rfl rfl rfl rfl rfl rfl rfl z7 z7 z7 (λ_=>rfl) (z8) ⟨(dJ (bR qM qR qW)),(dJ (bR qM qR qW)),(dJ (bR qM qR qW)),(dJ (bR qM qR qW)),(dJ (bR qM qR qW)),(dJ (bR qM qR qW)),trivial⟩ (dJ (bR qM qR qW)) zz (λ_ _ _=>by first|exact aNs _| (simp only[aNo];omega)) ?_ ?_ ?_
   ·intro i q hg;refine⟨?_,by repeat (first|exact jJ.nil|refine jJ.cons (by first|exact Md.bel _ _|exact Rq.bel _ _|exact Rs.bel _ _|exact Te.bel _ _|exact fP _ _|exact gK _ _|exact jV _ _|exact jQ _ _|exact bM _ _|exact eX _ _ _ _|exact eF _ _ _|exact bF.int _ _|exact bF.bool _|exact bF.str _|exact bF.nilp|exact bF.nilfn|exact bF.optr _ _ zz|exact cM _|exact cP _|exact cV _ _|assumption) ?_)⟩;simp only[aN7]
    repeat (first|exact dN _|exact trivial|exact eK _| (refine iJ.cons ?_ ?_)| (refine dT (by first|exact Md.bel _ _|exact Rq.bel _ _|exact Rs.bel _ _|exact Te.bel _ _|exact fP _ _|exact gK _ _|exact jV _ _|exact jQ _ _|exact bM _ _|exact eX _ _ _ _|exact eF _ _ _|exact bF.int _ _|exact bF.bool _|exact bF.str _|exact bF.nilp|exact bF.nilfn|exact bF.optr _ _ zz|exact cM _|exact cP _|exact cV _ _|assumption|exact MH _ _ _ zz) ?_))
   ·intro i q hi hg;have g1:=fS hi;have g2:=dF Md.enc hi;have hql:q.length<=1000000:=by
     have:((ms.take i).flatMap (λm=> [(m.src.length:Int),r.arg])).length<=2*ms.length:=zA _ _ _;rw[hg];omega
    have happ:=λfr (H:aH) (hH:H[3]? =some (.buf q.length 1))=>aH4 (fresh:=fr) (a:=(ms[i].src.length:Int)) (b:=r.arg) (tl:=.full) hH hql;obtain⟨mn,hmn⟩:∃x,x=ms[i].name:=⟨_,rfl⟩;obtain⟨msr,hmsr⟩:∃x,x=ms[i].src:=⟨_,rfl⟩;refine aV (aG lZ jI qM qR qW g1 g2) ?_;refine aV (aG y3 y9 jH lW jI qO (cF qM qR qW g1 g2 happ)) ?_;exact⟨⟨rfl,rfl,trivial⟩,q++ [(msr.length:Int),r.arg],_,⟨rfl,rfl,rfl,rfl,trivial⟩,JQ (bD qM qR qW hmsr),by rw[hg,hmsr,List.take_succ_eq_append_getElem hi,List.flatMap_append];rfl⟩
   ·intro q hg;rw[aOj]at hg;refine aV (bD qO qM qR qW) ?_
    repeat refine wS ?_
    refine wT ⟨.inr rfl,_,(gI 4 60 rfl CB z7 (JA (bR qM qR qW))), ?_⟩;rw[<-hg];rfl
end Go.Abs
namespace Go.Abs
open Go.Proofs Go.Memo
theorem AI{σ:Type}{step:QK->σ->Option (Option QV×σ)}{k:QK}{c:QV->cR}{s s':σ}{o:Option QV}(h:lL step (.get k c) s=some (o,s')):∃o1 s1,step k s=some (o1,s1)/\((o1=none/\o=none/\s'=s1)\/∃v,o1=some v/\lL step (c v) s1=some (o,s')):=by
 unfold lL at h
 split at h
 ·cases h
 ·rename_i s1 h1;injection h with h;injection h with h2 h3;subst h2;subst h3;exact⟨none,s1,h1, .inl ⟨rfl,rfl,rfl⟩⟩
 ·rename_i v s1 h1;exact⟨some v,s1,h1, .inr ⟨v,rfl,h⟩⟩
theorem AL{σ:Type}{step:QK->σ->Option (Option QV×σ)}{c:QV->cR}{s1 s':σ}{o1 o:Option QV}{v:QV}(hcs:(o1=none/\o=none/\s'=s1)\/∃v,o1=some v/\lL step (c v) s1=some (o,s'))(h:o1=some v):lL step (c v) s1=some (o,s'):=by
 rcases hcs with⟨h1,_⟩| ⟨v',h1,h2⟩
 ·rw[h]at h1;cases h1
 ·rw[h]at h1;injection h1 with h1;subst h1;exact h2
def JU:List UInt8:= [109]
def uV(a:Rs):QV:=⟨a.err::a.nums,a.text⟩
def sO:Nat->Nat->List Md->(List Md->cR)->cR
 |0,_,ms,f=>f ms
 |m+1,i,ms,f=>.get (0,1,(i:Int)) λa=>.get (0,2,(i:Int)) λb=>sO m (i+1) (ms++ [⟨a.text,b.text⟩]) f
def QL(f:List Md->cR)(c:QV):cR:=match c.nums with
 | []=>.bad
 |n::_=>if 0<=n/\n<=8 then sO n.toNat 0 [] f else .bad
def HM(k:QK)(ms:List Md):cR:=if 0<=k.2.2/\k.2.2<ms.length then .ret (uV (eI ms ⟨0,0,k.1,k.2.1,(ms.getD k.2.2.toNat ⟨[],[]⟩).name⟩))else .bad
def sH(k:QK):cR:=if vF k.1=true then .get (0,2,k.2.2) λv=>.ret (uV (eI [⟨JU,v.text⟩] ⟨0,0,k.1,k.2.1,JU⟩))else .get (0,0,0) (QL (HM k))
theorem aCd{σ:Type}{step:QK->σ->Option (Option QV×σ)}{f:List Md->cR}{v:QV}{s s':σ}{o:Option QV}(h:lL step (QL f v) s=some (o,s')):∃(n:Nat) (tl:List Int),v.nums=(n:Int)::tl/\n<=8/\lL step (sO n 0 [] f) s=some (o,s'):=by
 unfold QL at h
 split at h
 ·simp[lL]at h
 ·rename_i n tl hv
  split at h
  ·rename_i hn;exact⟨n.toNat,tl,by rw[hv];congr 1;omega,z8,h⟩
  ·simp[lL]at h
theorem WO{σ:Type}{J:σ->eL->aH->Prop}{step:QK->σ->Option (Option QV×σ)}{fg:FuncId}{caps:List PV}(hJ:Own J)(hgo:bO Tryz.prog fg=true)(hg:∀k s F H o s',step k s=some (o,s')->J s F H->XM Tryz.prog J fg (dQ k::caps) F H (o.map qN) s')(f:List Md->cR)(s0:σ)(F0:eL)(H0:aH)(o:Option QV)(s':σ)(hr:lL step (.get (0,0,0) (QL f)) s0=some (o,s'))(hj:J s0 F0 H0):nE Tryz.prog zT 43 [.fn (.func fg) [] caps] H0 (λr H'=>∃ms s1 F1,r= .slice (ms.map Md.enc) .none/\ms.length<=8/\lL step (f ms) s1=some (o,s')/\J s1 F1 H'/\dE F0 F1 H0 H') (λH'=>o=none/\∃F',J s' F' H'/\dE F0 F' H0 H'):=by
 obtain⟨o1,s1,hst,hcs⟩:=AI hr;have em:maxLen=9223372036854775807:=z7
 refine iY (N:=36) Tryz.func43 rfl rfl zz λhb'=> ?_;refine aV (aS qM bG) ?_;refine aV (aS qM bG) ?_;refine eA 2 (bR iB qM bG) ?_;refine gN (dW (aS qM bG)) (bP (aS qM bG)) z7 hgo (hg (0,0,0) s0 F0 _ o1 s1 hst hj) ?_ (λHP ⟨ho,F2,j2,f2⟩=>by
 have h1:o1=none:=by cases o1 with
  |none=>rfl
  |some v=>cases ho
 rcases hcs with⟨_,h2,h3⟩| ⟨v,h2,_⟩
 ·subst h3;exact Or.inr ⟨rfl,h2,F2,j2,f2⟩
 ·rw[h1]at h2;cases h2)
 rintro rv H1 ⟨ho,F1,j1,f1⟩;obtain⟨v,hv1⟩:∃v,o1=some v:=by
  cases o1 with
  |none=>cases ho
  |some v=>exact⟨v,rfl⟩
 rw[hv1]at ho;injection ho with ho;subst ho;have hrun1:=AL hcs hv1;obtain⟨n,tl,hnn,hn8,hrun2⟩:=aCd hrun1;obtain⟨vn,vt⟩:=v;simp only at hnn;subst hnn;have gz:decide (((tl.length+1:Nat):Int)=0)=false:=decide_eq_false z8;have gz0:((0:Int)<((tl.length+1:Nat):Int))=True:=eq_true z8;refine bH (bL nU qM bG fY @DU) ?_;refine aV (aG y3 lW nU qM bG fY (aS @DU gz)) ?_;refine pJ (bD qM bG fY @DU) ?_
 repeat refine wS ?_
 refine wK ?_;refine aV (aG y3 lW nU qM bG fY (cF @DU gz0 vV @zrD Int.le_refl true_and)) ?_
 repeat refine wS ?_
 refine bJ ?_;refine fF (σ:=Nat×List Md×σ×eL×PV) (λ(z:Nat×List Md×σ×eL×PV)=> [(0, .fn (.func fg) [] caps),(3,z.2.2.2.2),(16,aE (n:Int)),(17,aE (z.1:Int))]) (λ(z:Nat×List Md×σ×eL×PV)=>λH2=>z.1<=n/\z.2.1.length=z.1/\lL step (sO (n-z.1) z.1 z.2.1 f) z.2.2.1=some (o,s')/\J z.2.2.1 z.2.2.2.1 H2/\dE F0 z.2.2.2.1 H0 H2/\∃cid,fV Md.enc 2 H2 z.2.2.2.2 z.2.1 cid/\∀i∈cid,H0.length<=i/\¬z.2.2.2.1 i) (λ(z:Nat×List Md×σ×eL×PV)=>n-z.1) ((0,[],s1,F1, .slice [] .full)) ⟨(dJ (bD qM bG fY @DU)),(dJ (bD qM bG fY @DU)),(dJ (bD qM bG fY @DU)),(dJ (bD qM bG fY @DU)),trivial⟩ (⟨aNs _,rfl,hrun2,hJ.app j1 _,f1.upd zz λid hid=>aM0 (aMs hid f1.len),[], .nil,λi hi=>by cases hi⟩) ?_;intro z H2 hg;obtain⟨HA,rfl⟩:∃HA,HA=H2:=⟨_,rfl⟩;obtain⟨i,ms,s,F,cv⟩:=z;obtain⟨hi,hml,hrun,hj3,hf3,cid,hk,hc⟩:=hg;simp only at hi hml hrun hj3 hf3 hk hc;have gj:IntKind.i64.wrap ((i:Int)+1)=((i+1:Nat):Int):=by rw[cL z8 z8];omega
 have gl:decide ((i:Int)<(n:Int))=decide (i<n):=by rw[decide_eq_decide];omega
 repeat refine wS ?_
 skip
 refine eE (fI (aG y3 qM bG fY @DU gj gl)) z7 ?_;refine gG (cF qM bG fY @DU gj gl) (λbt18=> ?_) (λbt18=> ?_)
 ·
  have hlt:i<n:=of_decide_eq_true bt18;obtain⟨m,hm⟩:∃m,n-i=m+1:=⟨n-i-1,z8⟩;rw[hm,sO]at hrun;obtain⟨o2,s2,hst2,hcs2⟩:=AI hrun
  repeat refine wS ?_
  refine wK ?_
  repeat refine wS ?_
  refine bJ ?_;refine aV (cF qM bG fY @DU gj gl) ?_;refine eA 4 (aG iB qM bG fY @DU gj gl) ?_;refine gN (dW (cF qM bG fY @DU gj gl)) (bP (cF qM bG fY @DU gj gl)) z7 hgo (hg (0,1,(i:Int)) s F HA o2 s2 hst2 hj3) ?_ (λHP ⟨ho,F2,j2,f2⟩=>by
 have h1:o2=none:=by cases o2 with
  |none=>rfl
  |some v=>cases ho
 rcases hcs2 with⟨_,h2,h3⟩| ⟨v,h2,_⟩
 ·subst h3;exact Or.inr ⟨rfl,h2,F2,j2,hf3.trans f2⟩
 ·rw[h1]at h2;cases h2)
  rintro rv HB ⟨ho,FB,jB,fB⟩;obtain⟨a,hv2⟩:∃v,o2=some v:=by
   cases o2 with
   |none=>cases ho
   |some v=>exact⟨v,rfl⟩
  rw[hv2]at ho;injection ho with ho;subst ho;have hrunB:=AL hcs2 hv2;obtain⟨o3,s3,hst3,hcs3⟩:=AI hrunB;obtain⟨an,at'⟩:=a;refine DS 4 (aG iB nU qM bG fY @DU (aS gj gl)) ?_;refine gN (dW (cF qM bG fY @DU gj gl)) (bP (cF qM bG fY @DU gj gl)) z7 hgo (hg (0,2,(i:Int)) s2 FB HB o3 s3 hst3 jB) ?_ (λHP ⟨ho,F2,j2,f2⟩=>by
 have h1:o3=none:=by cases o3 with
  |none=>rfl
  |some v=>cases ho
 rcases hcs3 with⟨_,h2,h3⟩| ⟨v,h2,_⟩
 ·subst h3;exact Or.inr ⟨rfl,h2,F2,j2,(hf3.trans fB).trans f2⟩
 ·rw[h1]at h2;cases h2)
  rintro rv HC ⟨ho,FC,jC,fC⟩;obtain⟨b,hv3⟩:∃v,o3=some v:=by
   cases o3 with
   |none=>cases ho
   |some v=>exact⟨v,rfl⟩
  rw[hv3]at ho;injection ho with ho;subst ho;have hrunC:=AL hcs3 hv3;obtain⟨bn,bt⟩:=b;have hkC:fV Md.enc 2 HC cv ms cid:=(hk.fr λi hi=>fB.same i (hk.lt i hi) (hc i hi).2).fr λi hi=>fC.same i (aMs (hk.lt i hi) fB.len) λh=>(hc i hi).2 (fB.ids i h (hk.lt i hi));have hcC:∀i∈cid,H0.length<=i/\¬FC i:=λi hi=>⟨(hc i hi).1,λh=>(hc i hi).2 (fB.ids i (fC.ids i h (aMs (hk.lt i hi) fB.len)) (hk.lt i hi))⟩;have hlC:=hJ.lt jC;refine DS 3 (aG lZ jI nU qM bG fY (bR @DU gj gl)) ?_;refine dX (enc:=Md.enc) (sz:=2) Md.enc_len nO z7 (cv:=cv) (xs:=ms) (a:=⟨at',bt⟩) (cid:=cid) rfl rfl z7 z7 (bK (aS qM bG)) (bK (aS qM bG)) hkC dZ rfl (by show(_+1)*32<=_;omega) z8 (by rw[dZ];rfl) rJ rfl ?_;intro cv5 cid5 H5 hk5 hi5 hl5 hs5;refine bH (cF qM bG fY @DU gj gl) ?_;refine gQ [0,3,16,17] (cF qM bG fY @DU gj gl) ?_;refine aV (aG y3 qM bG fY @DU gj gl) ?_
  try simp only[bQ,cB]
  exact⟨(i+1,ms++ [⟨at',bt⟩],s3,FC,cv5),by show _<_;omega,(by repeat (first|exact trivial|refine⟨rfl, ?_⟩)),by show i+1<=n;omega,by simp[hml],by rw[show n- (i+1)=m from by omega];exact hrunC,hJ.fr jC λid hid=>hs5 id (hlC id hid) λh=>(hcC id h).2 hid,((hf3.trans fB).trans fC).upd hl5 λid hid=>hs5 id (aMs hid ((hf3.trans fB).trans fC).len) λh=>by have:=(hcC id h).1;omega,cid5,hk5,λi hi=>(hi5 i hi).elim (hcC i) λh=>⟨aMr ((hf3.trans fB).trans fC).len h,λhf=>by have:=hlC i hf;omega⟩⟩
 ·
  have hge:=of_decide_eq_false bt18;obtain rfl:i=n:=z8
  rw[aNt,sO]at hrun
  repeat refine wS ?_
  refine dO ?_;simp only[bQ,cB,reduceIte,Nat.reduceEqDiff,aOf,if_true,if_false]
  repeat refine wS ?_
  refine iN Md.enc_len z7 3 hk rfl λHF hFl hFs=> ?_;refine eE (fI (cF qM bG fY @DU gj gl)) z7 ?_
  repeat refine wS ?_
  refine wT (Or.inl ⟨.inr rfl,_,rfl, ?_⟩);exact⟨ms,s,F,rfl,z8,hrun,hJ.fr hj3 λid hid=>hFs id λh=>(hc id h).2 hid,hf3.upd z8 λid hid=>hFs id λh=>by have:=(hc id h).1;omega⟩
end Go.Abs
namespace Go.Abs
open Go.Proofs Go.Memo
theorem LM(ms:List Md)(q1 q2:Int)(nm:List UInt8)(hx:ms.length<=400000){a:Rs}(ha:eI ms ⟨0,0,q1,q2,nm⟩=a){mv:PV}(hm:mv= .slice (ms.map Md.enc) .none):PC Tryz.prog 6 [mv, .agg [.int .i64 0, .int .i64 0, .int .i64 q1, .int .i64 q2, .str nm]] (.agg [.int .i64 a.cl, .int .i64 a.id, .int .i64 a.err, .int .i64 a.rev, .slice (a.nums.map aE) .none, .str a.text]):=by
 subst ha;subst hm;exact NK ms ⟨0,0,q1,q2,nm⟩ hx
theorem apE{fr:Nat}{H:aH}(e:Int){ns:List Int}(h:ns≠ [])(hl:ns.length<=1000000):cK ⟨false,1,8⟩ fr H (.slice [.int .i64 e] .full) (.slice (ns.map aE) .none)=some (.slice ((e::ns).map aE) (.tok fr),some (fr, .buf (ns.length+1) 1)):=by
 unfold cK;dsimp only;have em:maxLen=9223372036854775807:=z7
 have hn:ns.map aE≠ []:=by simpa using h
 rw[if_neg hn];rw[if_pos ⟨by simp;omega,by simp;omega,λe he=>by rw[aN8]at he;subst he;rfl,λe he=>by obtain⟨v,_,rfl⟩:=aNy.1 he;exact⟨rfl,rfl⟩,z7⟩];simp[aE,Nat.add_comm]
theorem YT(ms:List Md)(r:Rq)(h:ms.length<=400000):(eI ms r).nums.length<=1000000:=by
 unfold eI
 split
 ·simp
 split
 ·simp
 ·have h2:=zA ms ms.length r.arg;rw[aOj]at h2;show(ms.flatMap _).length<=_;omega
theorem VA{σ:Type}{J:σ->eL->aH->Prop}{step:QK->σ->Option (Option QV×σ)}{g:PV}(hg:aFv Tryz.prog J step g)(k:QK)(s:σ)(F:eL)(H:aH)(o:Option QV)(s':σ)(hr:lL step (sH k) s=some (o,s'))(hj:J s F H):XM Tryz.prog J 23 [.fn (.func 6) [] [],dQ k,g] F H (o.map qN) s':=by
 obtain⟨hO,fg,caps,rfl,hgo,hc⟩:=hg;obtain⟨k1,k2,k3⟩:=k;unfold sH at hr;refine iY (N:=49) Tryz.func23 rfl rfl zz λhb'=> ?_;refine aV (bR iB nU bG) ?_;refine aV (bD y3 jH iB bG) ?_;refine aV bG ?_;refine eA 2 (bR y3 iB bG) ?_;refine qT bG aIx (UD k1 _) ?_;refine oN ?_;refine gG bG (λbt17=> ?_) (λbt17=> ?_)
 ·
  rw[if_pos bt17]at hr;obtain⟨o1,s1,hst,hcs⟩:=AI hr;refine eA 4 (bR y3 iB bG) ?_;refine gN (dW bG) (bP bG) z7 hgo (hc (0,2,k3) s F _ o1 s1 hst (hO.app hj _)) ?_ (λHP ⟨ho,F2,j2,f2⟩=>by
 have h1:o1=none:=by cases o1 with
  |none=>rfl
  |some v=>cases ho
 rcases hcs with⟨_,h2,h3⟩| ⟨v,h2,_⟩
 ·subst h3;exact Or.inr ⟨rfl,by rw[h2];rfl,F2,j2,f2.of_app⟩
 ·rw[h1]at h2;cases h2)
  rintro rv HB ⟨ho,F1,j1,f1⟩;obtain⟨v,hv1⟩:∃v,o1=some v:=by
   cases o1 with
   |none=>cases ho
   |some v=>exact⟨v,rfl⟩
  rw[hv1]at ho;injection ho with ho;subst ho;have hrun:=AL hcs hv1;simp only[lL,Option.some.injEq,Prod.mk.injEq]at hrun;obtain⟨ho2,hs2⟩:=hrun;rw[hs2]at j1;obtain⟨vn,vt⟩:=v;have hq22:HB[H.length+2]? =some (.row [.int .i64 0, .int .i64 0, .int .i64 k1, .int .i64 k2, .str []])/\¬F1 (H.length+2):=f1.get zz (λh=>by have:=hO.lt hj _ h;omega);have hq11:HB[H.length+1]? =some (.row [.slice [] .full, .str []])/\¬F1 (H.length+1):=f1.get zz (λh=>by have:=hO.lt hj _ h;omega);have hq2:=hq22.1;obtain⟨a,ha⟩:∃a,eI [⟨JU,vt⟩] ⟨0,0,k1,k2,JU⟩=a:=⟨_,rfl⟩;have hov:o=some (uV a):=by rw[<-ha];exact ho2.symm
  have nzB:(H.length+2=HB.length)=False:=by have:=lG hq2;simp;omega
  obtain⟨HE,hHE⟩:∃HE,HE=HB.set (H.length+2) (.row [.int .i64 0, .int .i64 0, .int .i64 k1, .int .i64 k2, .str [109]]):=⟨_,rfl⟩;have hE2:HE[H.length+2]? =some (.row [.int .i64 0, .int .i64 0, .int .i64 k1, .int .i64 k2, .str [109]]):=by rw[hHE];exact aM4 (lG hq2)
  refine bH (aG lZ jI nU bG fY hq2 nzB) ?_;refine gQ [0,6,7,8] (bD bG fY hq2 nzB) ?_;refine aV (cF y9 jH bG fY hq2 nzB) ?_
  repeat refine wS ?_
  rw[<-hHE];refine wR ?_;refine DS 3 (cF jH bG fY hq2 nzB hE2) ?_;refine qT (bL bG fY hq2 nzB hE2) aFu (LM [⟨JU,vt⟩] k1 k2 [109] zz ha (mv:=.slice [.agg [.str [109], .str vt]] .none) rfl _) ?_;refine bH (cF qO bG fY hq2 nzB hE2) ?_;have hl9:=YT [⟨JU,vt⟩] ⟨0,0,k1,k2,JU⟩ (by first|omega|simp);rw[ha]at hl9;have hb1:HE[H.length+1]? =some (.row [.slice [] .full, .str []]):=by rw[hHE];exact bN hq11.1 z8
  refine dI (λHZ=>HZ[H.length+1]? =some (.row [.slice [] .full, .str []])/\HZ[HE.length]? =some (.row [.int .i64 a.cl, .int .i64 a.id, .int .i64 a.err, .int .i64 a.rev, .slice (a.nums.map aE) .none, .str a.text])/\J s' F1 HZ/\dE F F1 H HZ/\¬F1 (H.length+1)) ⟨bU hb1 _,zz,hO.app (by rw[hHE];exact hO.fr j1 λid hid=>aM5 λe=>hq22.2 (by rw[e];exact hid)) _,(f1.of_app).upd (by rw[hHE];simp) (λid hid=>by rw[aM0 (by rw[hHE,lS];have:=f1.len;simp at this;omega),hHE,aM5 z8]),hq11.2⟩ ?_;rintro HZ ⟨c1,c2,jZ,fZ,nZ⟩;have c1L:=bU c1;have c2L:=bU c2;have zsL:∀L o,((HZ++L).set (H.length+1) o)[H.length+1]? =some o:=λL o=>aM4 (by rw[aNo];have:=lG c1;omega);have zs:∀o,(HZ.set (H.length+1) o)[H.length+1]? =some o:=λo=>aM4 (lG c1);have nz1:(H.length+1=HZ.length)=False:=by have:=lG c1;simp;omega
  have nz2:(HE.length=HZ.length)=False:=by have:=lG c2;simp;omega
  have nb1:(HZ.length==HE.length)=false:=by have:=lG c2;simp;omega
  have nb2:(HE.length==HZ.length)=false:=by have:=lG c2;simp;omega
  have nb3:(HZ.length==H.length+1)=false:=by have:=lG c1;simp;omega
  have nb4:(H.length+1==HZ.length)=false:=by have:=lG c1;simp;omega
  have nz5:(H.length=HZ.length)=False:=by have:=lG c1;simp;omega
  have nz3:(HZ.length=H.length+1)=False:=by have:=lG c1;simp;omega
  rcases Classical.em (a.nums= [])with hns|hns
  ·
   repeat refine wS ?_
   refine iU 0 rfl (by kernel_rfl) ?_;refine eP 5 rfl (by simp only[jP,jO,jN,seval,y3,EN,lW,qO,aE,dQ,qN,hq2,nzB,hns,aOb,cK,c1,c2,nz1,nz2]<;>with_reducible rfl) z7 z7 z7 ?_;refine mR (by first| (simp only[LS,HS,aOe,aMl,aN7,qN,hq2,nzB,hns,aOb,cK,c1,c2,nz1,nz2]<;>with_reducible rfl)|rfl) ?_;refine iO (bm:= [0,1,3,0,8,31,0,64,255,511]) (fresh:=0) (by kernel_rfl) (by simp only[jX,jO,jN,seval,y3,y9,lW,qO,nU,aE,dQ,qN,hq2,nzB,hns,aOb,cK,c1,c2,nz1,nz2]<;>with_reducible rfl) z7 (by repeat (first|exact fT.base _|with_reducible apply fT.keep|apply fT.drop)) ?_
   repeat refine wS ?_
   refine wT (Or.inl ⟨.inr rfl,_,(gI 6 67 rfl pT z7 (by simp only[jL,jN,seval,aE,dQ,qN,hq2,nzB,hns,aOb,cK,c1,c2,nz1,nz2,zs]<;>with_reducible rfl)), ?_⟩);refine⟨by rw[hov];first|rfl| (simp only[uV,aM6,qN,hns];rfl),F1,hO.fr jZ λid hid=> ?_,fZ.upd zz λid hid=> ?_⟩
   ·have:=hO.lt jZ id hid
    first
     | (rw[aM5 (by rintro rfl;exact nZ hid)];done)
     |rw[aM5 (by rintro rfl;exact nZ hid),aM0 this]
     |rw[aM0 (by simpa using this),aM5 (by rintro rfl;exact nZ hid)]
   ·have:=aMs hid fZ.len
    first
     | (rw[aM5 z8];done)
     |rw[aM5 z8,aM0 this]
     |rw[aM0 (by simpa using this),aM5 z8]
  ·
   have hap:=λfr HH=>apE (fr:=fr) (H:=HH) a.err hns hl9
   repeat refine wS ?_
   refine kP 1 (by kernel_rfl) ?_;refine pR (bm:= [0,1,3,0,8,31,0,64,255,511]) (fresh:=(HZ.length)) (by kernel_rfl) (EY (aG y3 y9 EN lW qO nU (aG bG fY hq2 nzB hap c1 (aG c2 c1L c2L nz1 nz2 nz3 (cF nz5 nb1 nb2 nb3 nb4 uR))))) z7 ?_
   repeat refine wS ?_
   refine wT (Or.inl ⟨.inr rfl,_,(gI 6 67 rfl pT z7 (JA (aG bG fY hq2 nzB hap c1 (aG c2 c1L c2L nz1 nz2 nz3 (aG nz5 nb1 nb2 nb3 nb4 uR (aS zs zsL)))))), ?_⟩);refine⟨by rw[hov];first|rfl| (simp only[uV,aM6,qN,hns];rfl),F1,hO.fr jZ λid hid=> ?_,fZ.upd zz λid hid=> ?_⟩
   ·have:=hO.lt jZ id hid
    first
     | (rw[aM5 (by rintro rfl;exact nZ hid)];done)
     |rw[aM5 (by rintro rfl;exact nZ hid),aM0 this]
     |rw[aM0 (by simpa using this),aM5 (by rintro rfl;exact nZ hid)]
   ·have:=aMs hid fZ.len
    first
     | (rw[aM5 z8];done)
     |rw[aM5 z8,aM0 this]
     |rw[aM0 (by simpa using this),aM5 z8]
 ·
  rw[if_neg (by rw[bt17];simp)]at hr;refine eA 1 bG ?_;refine gN (dW bG) (bP bG) z7 aI1 (WO hO hgo hc (HM (k1,k2,k3)) s F _ o s' hr (hO.app hj _)) ?_ (λHP ⟨ho,F2,j2,f2⟩=>Or.inr ⟨rfl,by rw[ho];rfl,F2,j2,f2.of_app⟩);rintro rv HB ⟨ms,s1,F1,rfl,h8,hrun,j1,f1⟩;unfold HM at hrun
  by_cases hkk:0<=k3/\k3<(ms.length:Int)
  rotate_left
  ·rw[if_neg hkk]at hrun;simp[lL]at hrun
  rw[if_pos hkk]at hrun;simp only[lL,Option.some.injEq,Prod.mk.injEq]at hrun;obtain⟨ho2,hs2⟩:=hrun;rw[hs2]at j1;obtain⟨kb,hkb⟩:∃kb:Nat,k3=(kb:Int):=⟨k3.toNat,z8⟩;subst hkb;have hkl:kb<ms.length:=z8
  have gk:=fS hkl;have ge:=dF Md.enc hkl;rw[tN,aNj,aNi hkl,aMz]at ho2;obtain⟨nm,hnm⟩:∃nm,nm=ms[kb].name:=⟨_,rfl⟩;obtain⟨sr,hsr⟩:∃sr,sr=ms[kb].src:=⟨_,rfl⟩;rw[<-hnm]at ho2;rw[show Md.enc ms[kb]= .agg [.str nm, .str sr]from by rw[hnm,hsr];rfl]at ge;have hq22:HB[H.length+2]? =some (.row [.int .i64 0, .int .i64 0, .int .i64 k1, .int .i64 k2, .str []])/\¬F1 (H.length+2):=f1.get zz (λh=>by have:=hO.lt hj _ h;omega);have hq11:HB[H.length+1]? =some (.row [.slice [] .full, .str []])/\¬F1 (H.length+1):=f1.get zz (λh=>by have:=hO.lt hj _ h;omega);have hq2:=hq22.1;have hq0:HB[H.length]? =some (.row [.int .i64 k1, .int .i64 k2, .int .i64 (kb:Int)]):=(f1.get zz (λh=>by have:=hO.lt hj _ h;omega)).1;obtain⟨a,ha⟩:∃a,eI ms ⟨0,0,k1,k2,nm⟩=a:=⟨_,rfl⟩;have hov:o=some (uV a):=by rw[<-ha];exact ho2.symm
  have nzB:(H.length+2=HB.length)=False:=by have:=lG hq2;simp;omega
  obtain⟨HE,hHE⟩:∃HE,HE=HB.set (H.length+2) (.row [.int .i64 0, .int .i64 0, .int .i64 k1, .int .i64 k2, .str nm]):=⟨_,rfl⟩;have hE2:HE[H.length+2]? =some (.row [.int .i64 0, .int .i64 0, .int .i64 k1, .int .i64 k2, .str nm]):=by rw[hHE];exact aM4 (lG hq2)
  refine bH (cF bG hq0 hq2 nzB gk ge) ?_;refine gQ [0,4,6,7,8] (cF bG hq0 hq2 nzB gk ge) ?_;refine aV (aG y3 y9 jH lZ jI iB (cF bG hq0 hq2 nzB gk ge)) ?_
  repeat refine wS ?_
  rw[<-hHE];refine wR ?_;refine DS 3 (aG jH bG hq0 hq2 nzB gk (aS ge hE2)) ?_;refine qT (aG bG hq0 hq2 nzB gk ge hE2) aFu (LM ms k1 k2 nm z8 ha rfl _) ?_;refine bH (aG qO bG hq0 hq2 nzB gk (aS ge hE2)) ?_;have hl9:=YT ms ⟨0,0,k1,k2,nm⟩ (by first|omega|simp);rw[ha]at hl9;have hb1:HE[H.length+1]? =some (.row [.slice [] .full, .str []]):=by rw[hHE];exact bN hq11.1 z8
  refine dI (λHZ=>HZ[H.length+1]? =some (.row [.slice [] .full, .str []])/\HZ[HE.length]? =some (.row [.int .i64 a.cl, .int .i64 a.id, .int .i64 a.err, .int .i64 a.rev, .slice (a.nums.map aE) .none, .str a.text])/\J s' F1 HZ/\dE F F1 H HZ/\¬F1 (H.length+1)) ⟨bU hb1 _,zz,hO.app (by rw[hHE];exact hO.fr j1 λid hid=>aM5 λe=>hq22.2 (by rw[e];exact hid)) _,(f1.of_app).upd (by rw[hHE];simp) (λid hid=>by rw[aM0 (by rw[hHE,lS];have:=f1.len;simp at this;omega),hHE,aM5 z8]),hq11.2⟩ ?_;rintro HZ ⟨c1,c2,jZ,fZ,nZ⟩;have c1L:=bU c1;have c2L:=bU c2;have zsL:∀L o,((HZ++L).set (H.length+1) o)[H.length+1]? =some o:=λL o=>aM4 (by rw[aNo];have:=lG c1;omega);have zs:∀o,(HZ.set (H.length+1) o)[H.length+1]? =some o:=λo=>aM4 (lG c1);have nz1:(H.length+1=HZ.length)=False:=by have:=lG c1;simp;omega
  have nz2:(HE.length=HZ.length)=False:=by have:=lG c2;simp;omega
  have nb1:(HZ.length==HE.length)=false:=by have:=lG c2;simp;omega
  have nb2:(HE.length==HZ.length)=false:=by have:=lG c2;simp;omega
  have nb3:(HZ.length==H.length+1)=false:=by have:=lG c1;simp;omega
  have nb4:(H.length+1==HZ.length)=false:=by have:=lG c1;simp;omega
  have nz5:(H.length=HZ.length)=False:=by have:=lG c1;simp;omega
  have nz3:(HZ.length=H.length+1)=False:=by have:=lG c1;simp;omega
  rcases Classical.em (a.nums= [])with hns|hns
  ·
   repeat refine wS ?_
   refine iU 0 rfl (by kernel_rfl) ?_;refine eP 5 rfl (by simp only[jP,jO,jN,seval,y3,EN,lW,qO,aE,dQ,hq0,hq2,nzB,gk,ge,tN,hns,aOb,cK,c1,c2,nz1,nz2]<;>with_reducible rfl) z7 z7 z7 ?_;refine mR (by first| (simp only[LS,HS,aOe,aMl,aN7,hq0,hq2,nzB,gk,ge,tN,hns,aOb,cK,c1,c2,nz1,nz2]<;>with_reducible rfl)|rfl) ?_;refine iO (bm:= [0,1,3,0,8,31,0,64,255,511]) (fresh:=0) (by kernel_rfl) (by simp only[jX,jO,jN,seval,y3,y9,lW,qO,nU,aE,dQ,hq0,hq2,nzB,gk,ge,tN,hns,aOb,cK,c1,c2,nz1,nz2]<;>with_reducible rfl) z7 (by repeat (first|exact fT.base _|with_reducible apply fT.keep|apply fT.drop)) ?_
   repeat refine wS ?_
   refine wT (Or.inl ⟨.inr rfl,_,(gI 6 67 rfl pT z7 (by simp only[jL,jN,seval,aE,dQ,hq0,hq2,nzB,gk,ge,tN,hns,aOb,cK,c1,c2,nz1,nz2,zs]<;>with_reducible rfl)), ?_⟩);refine⟨by rw[hov];first|rfl| (simp only[uV,aM6,qN,hns];rfl),F1,hO.fr jZ λid hid=> ?_,fZ.upd zz λid hid=> ?_⟩
   ·have:=hO.lt jZ id hid
    first
     | (rw[aM5 (by rintro rfl;exact nZ hid)];done)
     |rw[aM5 (by rintro rfl;exact nZ hid),aM0 this]
     |rw[aM0 (by simpa using this),aM5 (by rintro rfl;exact nZ hid)]
   ·have:=aMs hid fZ.len
    first
     | (rw[aM5 z8];done)
     |rw[aM5 z8,aM0 this]
     |rw[aM0 (by simpa using this),aM5 z8]
  ·
   have hap:=λfr HH=>apE (fr:=fr) (H:=HH) a.err hns hl9
   repeat refine wS ?_
   refine kP 1 (by kernel_rfl) ?_;refine pR (bm:= [0,1,3,0,8,31,0,64,255,511]) (fresh:=(HZ.length)) (by kernel_rfl) (EY (aG y3 y9 EN lW qO nU (aG bG hq0 hq2 nzB gk ge (aG hap c1 c2 c1L c2L nz1 (aG nz2 nz3 nz5 nb1 nb2 nb3 (aS nb4 uR)))))) z7 ?_
   repeat refine wS ?_
   refine wT (Or.inl ⟨.inr rfl,_,(gI 6 67 rfl pT z7 (JA (aG bG hq0 hq2 nzB gk ge (aG hap c1 c2 c1L c2L nz1 (aG nz2 nz3 nz5 nb1 nb2 nb3 (bD nb4 uR zs zsL)))))), ?_⟩);refine⟨by rw[hov];first|rfl| (simp only[uV,aM6,qN,hns];rfl),F1,hO.fr jZ λid hid=> ?_,fZ.upd zz λid hid=> ?_⟩
   ·have:=hO.lt jZ id hid
    first
     | (rw[aM5 (by rintro rfl;exact nZ hid)];done)
     |rw[aM5 (by rintro rfl;exact nZ hid),aM0 this]
     |rw[aM0 (by simpa using this),aM5 (by rintro rfl;exact nZ hid)]
   ·have:=aMs hid fZ.len
    first
     | (rw[aM5 z8];done)
     |rw[aM5 z8,aM0 this]
     |rw[aM0 (by simpa using this),aM5 z8]
end Go.Abs
namespace Go.Abs
open Go.Proofs Go.Memo
def yI(bA:Nat):List (Nat×AObj):= [(bA, .row [.fn (.func 6) [] []])]
theorem XE(bA:Nat):aEc Tryz.prog sH (.fn (.func 22) [] [.optr bA 0]) (yI bA):=by
 refine⟨22,_,rfl,aJx,λσ J step g hg k s F H o s' hk hr hj he=> ?_⟩;have ha:=he (bA, .row [.fn (.func 6) [] []]) (by simp[yI]);simp only at ha;have haL:=bU ha;have hO:=hg.own;obtain⟨k1,k2,k3⟩:=k;obtain⟨fg,caps,hgv,_⟩:=hg.ex;subst hgv;refine iY (N:=10) Tryz.func22 rfl rfl zz λhb'=> ?_;refine aV (cF iB nU bG ha haL fY) ?_;refine eA 3 (cF y26 iB bG ha haL fY) ?_;refine gN (dW (bD bG ha haL fY)) (bP (bD bG ha haL fY)) z7 aIz (VA hg (k1,k2,k3) s F _ o s' hr (hO.app hj _)) ?_ (λHP ⟨ho,F2,j2,f2⟩=>Or.inr ⟨rfl,ho,F2,j2,f2.of_app⟩);rintro rv HB ⟨ho,F1,j1,f1⟩;obtain⟨v,hv⟩:∃v,o=some v:=by
  cases o with
  |none=>cases ho
  |some v=>exact⟨v,rfl⟩
 rw[hv]at ho;injection ho with ho;subst ho;have hq:HB[H.length+1]? =some (.row [.slice [] .full, .str []])/\¬F1 (H.length+1):=f1.get zz (λh=>by have:=hO.lt hj _ h;omega);have hq1:=hq.1;have nzB:(H.length+1=HB.length)=False:=by have:=lG hq1;simp;omega
 have zs:∀o,(HB.set (H.length+1) o)[H.length+1]? =some o:=λo=>aM4 (lG hq1);refine bH (aG nU bG ha haL fY hq1 nzB) ?_
 repeat refine wS ?_
 refine wT (Or.inl ⟨.inr rfl,_,(gI 5 67 rfl pT z7 (JA (aG bG ha haL fY hq1 nzB zs))), ?_⟩);refine⟨by rw[hv];rfl,F1,hO.fr j1 λid hid=>aM5 (by rintro rfl;exact hq.2 hid),(f1.of_app).upd zz λid hid=>aM5 z8⟩
abbrev LSv(H:aH):aH:= [.row [.fn (.func 6) [] []], .obj (.mapg [] 0),nY 0 0 0 0 (H.length+1), .obj (.mapg [] 0), .obj (.mapg [] 0), .row [.fn (.func 22) [] [.optr H.length 0], .optr (H.length+2) 0, .mapp (H.length+3), .mapp (H.length+4), .nilfn,aE 0,aE 0], .row [.slice [] .full, .slice [] .full, .slice [] .full,aE 0, .optr (H.length+5) 0]]
theorem WH(H:aH):aR Tryz.prog 5 [.fn (.func 6) [] []] H (λr H'=>r= .optr (H.length+6) 0/\H'=H++LSv H):=by
 refine aF (N:=9) Tryz.func5 rfl rfl zz λhb'=> ?_;refine aV (bD y26 bG sS TE) ?_;refine eA 1 (bD y26 bG sS TE) ?_;refine rR (op:=.eql) rfl (.inl rfl) (bP bG) z7 Tryz.underlying26 (v:=false) (.inl ⟨dW bG,rfl⟩) ?_;refine oN ?_;refine pJ (bR bG sS TE) ?_
 repeat refine wS ?_
 refine wK ?_;refine eA 1 (bR bG sS TE) ?_;refine oW (bR bG sS TE) aHu (aG1 22 [.optr H.length 0] _) ?_;rintro _ HB ⟨rfl,hHB⟩;have hlB:HB.length=H.length+6:=by rw[hHB];simp
 obtain⟨HX,hHX⟩:∃HX,HX=HB:=⟨_,rfl⟩;refine bH (bD uS bG sS TE) ?_
 repeat refine wS ?_
 refine wT ⟨.inr rfl,_,rfl, ?_⟩;exact⟨by rw[hlB];rfl,by rw[hHB];simp[aE]⟩
end Go.Abs
namespace Go.Abs
open Go.Proofs Go.Memo
structure fX where
 ms:List Md
 vs:List Int
 ps:List Rq
 rev:Int
def RS(bA n:Nat):Cx:= {ix:= {d:=n+4,s:=n+1,m:=n+2,c:=n,a:=n+3,cf:=.fn (.func 22) [] [.optr bA 0],stp:=.nilfn},cp:=sH,stpf:=λ_=>false,env:=yI bA,FX:=λ_=>False,I:=λ_ _=>True}
theorem yP(bA n:Nat):oA (RS bA n):=⟨XE bA,λ_ _ _ _ _=>trivial,λ_ _ _ _ h=>h.elim, .inl ⟨rfl,λ_=>rfl⟩⟩
def bV(S:fX)(tl1 tl2:bE)(pv:PV)(n:Nat):AObj:=.row [.slice (S.ms.map Md.enc) tl1, .slice (S.vs.map aE) tl2,pv,aE S.rev, .optr (n+4) 0]
def uT:bE->Prop
 | .tok _=>False
 |_=>True
structure jR(bA n sr:Nat)(S:fX)(tl1 tl2:bE)(pv:PV)(loc:QK->Nat)(st:Memo.St)(G:eL)(pid:List Nat)(H:aH):Prop where
 go:H[0]? =some gO
 w:WR (RS bA n) loc [] st false G H
 row:H[sr]? =some (bV S tl1 tl2 pv n)
 t1:uT tl1
 t2:uT tl2
 p:vK Rq.enc 5 H pv S.ps pid
 n0:¬G 0/\sr≠0/\0∉pid
 ns:¬G sr/\sr∉pid
 np:∀i∈pid,¬G i
def bW(sr:Nat)(G:eL)(pid:List Nat):eL:=λid=>G id\/id=sr\/id∈pid
section
variable{bA n sr:Nat}{S:fX}{tl1 tl2:bE}{pv:PV}{loc:QK->Nat}{st:Memo.St}{G:eL}{pid:List Nat}{H H':aH}
theorem jR.lt(h:jR bA n sr S tl1 tl2 pv loc st G pid H):∀id,bW sr G pid id->id<H.length:=by
 rintro id (hi|rfl|hi)
 ·exact h.w.lt (yP _ _) id hi
 ·exact lG h.row
 ·exact h.p.lt id hi
theorem jR.fr(h:jR bA n sr S tl1 tl2 pv loc st G pid H)(h0:H'[0]? =H[0]?)(hs:∀id,bW sr G pid id->H'[id]? =H[id]?):jR bA n sr S tl1 tl2 pv loc st G pid H':=
 ⟨by rw[h0];exact h.go,h.w.fr (yP _ _) λid hi=>hs id (.inl hi),by rw[hs sr (.inr (.inl rfl))];exact h.row,h.t1,h.t2,h.p.fr λi hi=>hs i (.inr (.inr hi)),h.n0,h.ns,h.np⟩
theorem jR.app(h:jR bA n sr S tl1 tl2 pv loc st G pid H)(L:aH):jR bA n sr S tl1 tl2 pv loc st G pid (H++L):=
 h.fr (aM0 (lG h.go)) λid hi=>aM0 (h.lt id hi)
theorem jR.pre(h:jR bA n sr S tl1 tl2 pv loc st G pid H):ML G0 H:=λk o hk=>by
 match k,hk with
 |0,hk=>injection hk with hk;subst hk;exact h.go
theorem jR.call(h:jR bA n sr S tl1 tl2 pv loc st G pid H){loc':QK->Nat}{st':Memo.St}{G':eL}(w':WR (RS bA n) loc' [] st' false G' H')(f:dE G G' H H'):
  jR bA n sr S tl1 tl2 pv loc' st' G' pid H'/\dE (bW sr G pid) (bW sr G' pid) H H':=by
 obtain⟨k1,k2⟩:=f.get h.go h.n0.1;obtain⟨k3,k4⟩:=f.get h.row h.ns.1;refine⟨⟨k1,w',k3,h.t1,h.t2,h.p.fr λi hi=>f.same i (h.p.lt i hi) (h.np i hi),⟨k2,h.n0.2⟩,⟨k4,h.ns.2⟩,λi hi hg=>h.np i hi (f.ids i hg (h.p.lt i hi))⟩,f.len,λid h1 h2=>f.same id h1 λhg=>h2 (.inl hg),λid h1 h2=> ?_⟩;rcases h1 with h1|h1
 ·exact .inl (f.ids id h1 h2)
 ·exact .inr h1
theorem jR.setRow(h:jR bA n sr S tl1 tl2 pv loc st G pid H){S':fX}{u1 u2:bE}(h1:uT u1)(h2:uT u2)(hp:S'.ps=S.ps):jR bA n sr S' u1 u2 pv loc st G pid (H.set sr (bV S' u1 u2 pv n)):=by
 refine⟨by rw[aM5 h.n0.2.1];exact h.go,h.w.fr (yP _ _) λid hi=>aM5 (by rintro rfl;exact h.ns.1 hi),aM4 (lG h.row),h1,h2, ?_,h.n0,h.ns,h.np⟩;rw[hp];exact h.p.fr λi hi=>aM5 (by rintro rfl;exact h.ns.2 hi)
theorem dE.setO{F:eL}{H:aH}{i:Nat}(o:AObj)(hi:F i):dE F F H (H.set i o):=⟨zz,λid _ h2=>aM5 (by rintro rfl;exact h2 hi),λ_ h _=>h⟩
def mU(ms:List Md)(st:Memo.St):Nat->Memo.St
 |0=>iZ (0,0,0) ⟨[(ms.length:Int)],[]⟩ 0 st
 |i+1=>iZ (0,2,(i:Int)) ⟨[],(ms.getD i ⟨[],[]⟩).src⟩ 0 (iZ (0,1,(i:Int)) ⟨[],(ms.getD i ⟨[],[]⟩).name⟩ 0 (mU ms st i))
theorem IJ{k:QK}{v:QV}{st:Memo.St}(h:∀q,(st.cell q).d=0):∀q,((iZ k v 0 st).cell q).d=0:=λq=>by
 unfold iZ
 split
 ·exact h q
 ·simp only
  split
  ·rfl
  ·exact h q
theorem pI(k:QK)(v:QV)(d:Nat)(st:Memo.St):(iZ k v d st).now<=st.now+1/\(iZ k v d st).clk=st.clk/\(iZ k v d st).res=st.res/\(iZ k v d st).comps=st.comps:=by
 unfold iZ
 split
 ·exact⟨Nat.le_succ _,rfl,rfl,rfl⟩
 ·exact⟨aMq _,rfl,rfl,rfl⟩
theorem JO(ms:List Md){st:Memo.St}(h:∀q,(st.cell q).d=0):∀i,(∀q,((mU ms st i).cell q).d=0)/\(mU ms st i).now<=st.now+(2*i+1)
 |0=>⟨IJ h,(pI _ _ _ _).1⟩
 |i+1=>by
  obtain⟨h1,h2⟩:=JO ms h i;have a:=(pI (0,1,(i:Int)) ⟨[],(ms.getD i ⟨[],[]⟩).name⟩ 0 (mU ms st i)).1;have b:=(pI (0,2,(i:Int)) ⟨[],(ms.getD i ⟨[],[]⟩).src⟩ 0 (iZ (0,1,(i:Int)) ⟨[],(ms.getD i ⟨[],[]⟩).name⟩ 0 (mU ms st i))).1;exact⟨IJ (IJ h1),by show(iZ _ _ _ _).now<=_;omega⟩
theorem aA2(h:jR bA n sr S tl1 tl2 pv loc st G pid H)(a b:Int)(v:QV)(hv:v.nums.length<=rD)(hd0:∀q,(st.cell q).d=0)(hnow:st.now<2^62){vv:PV}(hvv:vv=qN v):
  aR Tryz.prog 100 [.optr (n+4) 0, .agg [.int .i64 0, .int .i64 a, .int .i64 b],vv, .int .i64 0] H (λr H'=>r= .int .i64 0/\jR bA n sr S tl1 tl2 pv loc (iZ (0,a,b) v 0 st) G pid H'/\dE (bW sr G pid) (bW sr G pid) H H'):=by
 subst hvv;refine(aKb (yP bA n) (0,a,b) rfl v 0 (aNs _) hv loc [] st false G H (λq=>by rw[hd0 q];omega) hnow h.w).mono ?_;rintro r H' ⟨rfl,w,f⟩;obtain⟨h1,h2⟩:=h.call w f;exact⟨rfl,h1,h2⟩
end
end Go.Abs
namespace Go.Abs
open Go.Proofs Go.Memo
theorem MW{bA n sr:Nat}{S:fX}{tl1 tl2:bE}{pv:PV}{loc:QK->Nat}{st:Memo.St}{G:eL}{pid:List Nat}{H:aH}(hS:jR bA n sr S tl1 tl2 pv loc st G pid H)(hd0:∀q,(st.cell q).d=0)(h8:S.ms.length<=1000)(hnow:st.now+3000<2^62):aR Tryz.prog 75 [.optr sr 0] H (λr H'=>jR bA n sr S tl1 tl2 pv loc (mU S.ms st S.ms.length) G pid H'/\dE (bW sr G pid) (bW sr G pid) H H'):=by
 have hrow:=hS.row;simp only[bV,aE]at hrow;have hrowL:=bU hrow;have hin:=JO S.ms hd0;have hlm:S.ms.length<=rD:=by unfold rD;omega
 refine aF (N:=48) Tryz.func75 rfl rfl zz λhb'=> ?_
 repeat refine wS ?_
 refine dV 0 (by kernel_rfl) ?_;simp only[aOd,aN9];refine eZ 12 (bm:= [0,1,3,7,0,0,32,96,224,480,992,2016,4095]) (by kernel_rfl) z7 (by kernel_rfl) (by kernel_rfl) ?_;refine iI (aG y3 lZ lW jI qV iB (bD nU uS hrow hrowL)) ?_;refine gJ (k:=12) (bm:= [0,1,3,7,0,0,32,96,224,480,992,2016,4095]) (by kernel_rfl) rfl (by kernel_rfl) (by kernel_rfl) ?_;refine oC (DT eO) rfl z7 QO (aA2 hS 0 0 ⟨[(S.ms.length:Int)],[]⟩ (by show 1<=rD;unfold rD;omega) hd0 z8 (vv:=.agg [.slice [.int .i64 (S.ms.length:Int)] .none, .str []]) rfl) ?_;rintro _ H1 ⟨rfl,hS1,f1⟩;have hrow1:=hS1.row;simp only[bV,aE]at hrow1;refine oN ?_;show iP _ _ _ _ _ _ _ _;refine eV ?_;refine aV (bD lZ jI uS hrow1) ?_
 repeat refine wS ?_
 refine bJ ?_;refine fF (σ:=Nat) (λ(z:Nat)=> [(0, .optr sr 0),(20, .slice (S.ms.map Md.enc) tl1),(21,aE (S.ms.length:Int)),(22,aE (z:Int))]) (λ(z:Nat)=>λH1=>z<=S.ms.length/\jR bA n sr S tl1 tl2 pv loc (mU S.ms st z) G pid H1/\dE (bW sr G pid) (bW sr G pid) H H1) (λ(z:Nat)=>S.ms.length-z) (0) ⟨(dJ eO),(dJ eO),(dJ eO),(dJ eO),trivial⟩ (⟨aNs _,hS1,f1⟩) ?_;intro z H1 hg;obtain⟨HA,rfl⟩:∃HA,HA=H1:=⟨_,rfl⟩;obtain⟨hz,hS2,f2⟩:=hg;have hrow2:=hS2.row;simp only[bV,aE]at hrow2;have hrow2L:=bU hrow2;obtain⟨hz1,hz2⟩:=hin z;have gj:IntKind.i64.wrap ((z:Int)+1)=((z+1:Nat):Int):=by rw[cL z8 z8];omega
 have gl:decide ((z:Int)<(S.ms.length:Int))=decide (z<S.ms.length):=by rw[decide_eq_decide];omega
 refine aV (bR y3 gj gl) ?_;refine gG (aS gj gl) (λbt23=> ?_) (λbt23=> ?_)
 ·
  have hlt:z<S.ms.length:=of_decide_eq_true bt23;have gi:=fS hlt;have ge:=dF Md.enc hlt;obtain⟨nm,hnm⟩:∃nm,nm=S.ms[z].name:=⟨_,rfl⟩;obtain⟨sr',hsr⟩:∃s,s=S.ms[z].src:=⟨_,rfl⟩;rw[show Md.enc S.ms[z]= .agg [.str nm, .str sr']from by rw[hnm,hsr];rfl]at ge;have hgd:S.ms.getD z ⟨[],[]⟩=S.ms[z]:=by rw[aNj,aNi hlt];rfl
  have hstep:mU S.ms st (z+1)=iZ (0,2,(z:Int)) ⟨[],sr'⟩ 0 (iZ (0,1,(z:Int)) ⟨[],nm⟩ 0 (mU S.ms st z)):=by rw[mU,hgd,hnm,hsr]
  have hS2':=hS2.app [.row [.str nm, .str sr']]
  repeat refine wS ?_
  refine wK ?_
  repeat refine wS ?_
  refine bJ ?_;refine aV (cF lZ jI gj gl gi ge) ?_;have hb3:(HA++ [AObj.row [.str nm, .str sr']])[HA.length]? =some (.row [.str nm, .str sr']):=zz
  have hs3:=hS2'.row;simp only[bV,aE]at hs3
  repeat refine wS ?_
  refine dV 0 (by kernel_rfl) ?_;simp only[aOd,aN9];refine eZ 9 (bm:= [0,1,3,7,0,16,0,64,192,511]) (by kernel_rfl) z7 (by kernel_rfl) (by kernel_rfl) ?_;refine iI (aG y9 jI qV iB nU uS (aS hs3 hb3)) ?_;refine gJ (k:=9) (bm:= [0,1,3,7,0,16,0,64,192,511]) (by kernel_rfl) rfl (by kernel_rfl) (by kernel_rfl) ?_;refine oC (DT eO) rfl z7 QO (aA2 hS2' 1 (z:Int) ⟨[],nm⟩ (aNs _) hz1 z8 (vv:=.agg [.slice [] .none, .str nm]) rfl) ?_;rintro _ HB ⟨rfl,hSB,fB⟩;have hrowB:=hSB.row;simp only[bV,aE]at hrowB;have hbB:HB[HA.length]? =some (.row [.str nm, .str sr']):=(fB.get hb3 (λh=>by have:=hS2.lt _ h;omega)).1;refine oN ?_;show iP _ _ _ _ _ _ _ _;refine eV ?_;refine gQ [0,2,3,20,21,22] (aS gj gl) ?_
  repeat refine wS ?_
  refine dV 0 (by kernel_rfl) ?_;simp only[aOd,aN9];refine eZ 9 (bm:= [0,1,3,7,0,16,0,64,192,511]) (by kernel_rfl) z7 (by kernel_rfl) (by kernel_rfl) ?_;refine iI (aG y9 jI qV iB nU uS (aS hrowB hbB)) ?_;refine gJ (k:=9) (bm:= [0,1,3,7,0,16,0,64,192,511]) (by kernel_rfl) rfl (by kernel_rfl) (by kernel_rfl) ?_;refine oC (DT eO) rfl z7 QO (aA2 hSB 2 (z:Int) ⟨[],sr'⟩ (aNs _) (IJ hz1) (by have:=(pI (0,1,(z:Int)) ⟨[],nm⟩ 0 (mU S.ms st z)).1;omega) (vv:=.agg [.slice [] .none, .str sr']) rfl) ?_;rintro _ HC ⟨rfl,hSC,fC⟩;refine oN ?_;show iP _ _ _ _ _ _ _ _;refine eV ?_;refine aV (bR y3 gj gl) ?_
  try simp only[bQ,cB]
  exact⟨z+1,by show _<_;omega,(by repeat (first|exact trivial|refine⟨rfl, ?_⟩)),z8,by rw[hstep];exact hSC,f2.trans ((fB.of_app).trans fC)⟩
 ·
  have hge:=of_decide_eq_false bt23;obtain rfl:z=S.ms.length:=z8
  repeat refine wS ?_
  refine dO ?_;simp only[bQ,cB,reduceIte,Nat.reduceEqDiff,aOf,if_true,if_false];refine⟨(by first|exact .inl rfl|exact .inl trivial|trivial),_,rfl, ?_⟩;exact⟨hS2,f2⟩
end Go.Abs
namespace Go.Abs
open Go.Proofs Go.Memo
def aE4(sr:Nat)(G:eL)(pid cid cid2:List Nat):eL:=λid=>bW sr G pid id\/id∈cid\/id∈cid2
def XN(bA n sr:Nat)(S:fX)(tl1 tl2:bE)(pv:PV)(loc:QK->Nat)(st:Memo.St)(G:eL)(pid:List Nat)(ms:List Md)(vs:List Int)(r:PV)(H':aH):Prop:=
 (gV ms≠0/\r=aE (gV ms)/\jR bA n sr S tl1 tl2 pv loc st G pid H')\/(gV ms=0/\r=aE 0/\jR bA n sr ⟨ms,vs,S.ps,S.rev+1⟩ .none .none pv loc (mU ms st ms.length) G pid H')
theorem uM{bA n sr:Nat}{S:fX}{tl1 tl2:bE}{pv:PV}{loc:QK->Nat}{st:Memo.St}{G:eL}{pid:List Nat}{H0:aH}(hS0:jR bA n sr S tl1 tl2 pv loc st G pid H0)(ms:List Md)(vs:List Int){cv cv2:PV}{cid cid2:List Nat}(h1:fV Md.enc 2 H0 cv ms cid)(h2:fV aE 1 H0 cv2 vs cid2)(hz0:∀i,i∈cid\/i∈cid2->i≠0)(hf1:∀i∈cid,¬bW sr G pid i)(hf2:∀i∈cid2,¬bW sr G pid i)(hdj:∀i∈cid2,i∉cid)(hl:ms.length<=1000000)(hn:∀m∈ms,m.name.length<=maxLen)(hd0:∀q,(st.cell q).d=0)(hnow:st.now+3000<2^62)(hrev:0<=S.rev/\S.rev<2^40):aR Tryz.prog 53 [.optr sr 0,cv,cv2] H0 (λr H'=>XN bA n sr S tl1 tl2 pv loc st G pid ms vs r H'/\dE (aE4 sr G pid cid cid2) (bW sr G pid) H0 H'):=by
 have hsA:∀i,bW sr G pid i->i∉cid:=λi hi hc=>hf1 i hc hi;have hsB:∀i,bW sr G pid i->i∉cid2:=λi hi hc=>hf2 i hc hi;refine aF (N:=30) Tryz.func53 rfl rfl zz λhb'=> ?_;refine iN Md.enc_len z7 1 h1 rfl λHA hlA hA=> ?_;refine eG (F:=gM [(0, .optr sr 0),(1, .slice (ms.map Md.enc) .none),(2,cv2)]) (cO ⟨rfl,rfl,rfl,trivial⟩) ?_;refine iN (enc:=aE) (sz:=1) (λ_=>rfl) z7 2 (h2.fr λi hi=>hA i (hdj i hi)) rfl λHB hlB hB=> ?_;refine eG (F:=gM [(0, .optr sr 0),(1, .slice (ms.map Md.enc) .none),(2, .slice (vs.map aE) .none)]) (cO ⟨rfl,rfl,rfl,trivial⟩) ?_;have hAB:∀i,i∉cid->i∉cid2->HB[i]? =H0[i]? :=λi q1 q2=>(hB i q2).trans (hA i q1);have hS:jR bA n sr S tl1 tl2 pv loc st G pid HB:=hS0.fr (hAB 0 (λh=>hz0 0 (.inl h) rfl) (λh=>hz0 0 (.inr h) rfl)) λi hi=>hAB i (hsA i hi) (hsB i hi);have f0:dE (aE4 sr G pid cid cid2) (bW sr G pid) H0 HB:=⟨z8,λi _ h2=>hAB i (λh=>h2 (.inr (.inl h))) (λh=>h2 (.inr (.inr h))),λi hi _=>.inl hi⟩;clear hA hB hAB hlA;obtain⟨H,rfl⟩:∃H,H=HB:=⟨_,rfl⟩;have hrow:=hS.row;simp only[bV,aE]at hrow;have hrowL:=bU hrow;have nsr:(sr=H.length)=False:=by have:=lG hrow;simp;omega
 have zs:∀o,(H.set sr o)[sr]? =some o:=λo=>aM4 (lG hrow);have gr:IntKind.i64.wrap (S.rev+1)=S.rev+1:=cL z8 z8;have em:maxLen=9223372036854775807:=z7
 refine sU ?_;refine MB 1 ?_;refine aFq aD3 (CP hS.pre ms z8 hn) ?_;rintro _ HX ⟨rfl,hX⟩;rw[hX];clear hX;refine CJ ?_;refine aV EN ?_;refine aAl (λbt11=> ?_) (λbt11=> ?_)
 ·
  have hv:gV ms≠0:=by simpa using bt11
  refine sU ?_
  repeat refine wS ?_
  refine wT ⟨.inr rfl,_,rfl, ?_⟩;exact⟨.inl ⟨hv,rfl,hS⟩,f0⟩
 ·
  have hv:gV ms=0:=by simpa using bt11
  have h8:ms.length<=8:=by
   unfold gV at hv;rcases aMo 8 ms.length with h|h
   ·rw[if_pos (by rw[show decide ((ms.length:Int)>8)=true from decide_eq_true z8];rfl)]at hv;cases hv
   ·exact h
  repeat refine wS ?_
  refine wK ?_;refine aV (aG y3 lZ lW jI uS hrow (bR nsr zs @RJ)) ?_
  repeat refine wS ?_
  refine eE (by simp only[kA,seval,y3,uS,aE,zs,gr,nsr,lS,List.set_set]<;>with_reducible rfl) z7 ?_;refine aK0 [0] ?_
  repeat refine wS ?_
  refine dI (λHZ=>HZ=H.set sr (bV ⟨ms,vs,S.ps,S.rev+1⟩ .none .none pv n)) (by simp[bV,aE,List.set_set]) ?_;rintro _ rfl;have hS1:jR bA n sr ⟨ms,vs,S.ps,S.rev+1⟩ .none .none pv loc st G pid (H.set sr (bV ⟨ms,vs,S.ps,S.rev+1⟩ .none .none pv n)):=hS.setRow (S':=⟨ms,vs,S.ps,S.rev+1⟩) trivial trivial rfl;refine wR ?_;refine aFa 1 ?_;refine oC (by simp only[kC,seval,aE]<;>with_reducible rfl) (by simp only[kC,seval,aE]) z7 aH3 (MW hS1 hd0 (by show ms.length<=1000;omega) hnow) ?_;rintro _ HB ⟨hSB,fB⟩;refine oN ?_;refine sU ?_
  repeat refine wS ?_
  refine wT ⟨.inr rfl,_,rfl, ?_⟩;exact⟨.inr ⟨hv,rfl,hSB⟩,f0.trans ((dE.setO _ (.inr (.inl rfl))).trans fB)⟩
end Go.Abs
namespace Go.Abs
open Go.Proofs Go.Memo
theorem xJ{bA n sr:Nat}{S:fX}{tl1 tl2:bE}{pv:PV}{loc:QK->Nat}{st:Memo.St}{G:eL}{pid:List Nat}{H:aH}(hS:jR bA n sr S tl1 tl2 pv loc st G pid H)(name:List UInt8)(hl:S.ms.length<=maxLen):aR Tryz.prog 39 [.optr sr 0, .str name] H (λr H'=>r=aE (cN (aO name) S.ms)/\H'=H):=by
 have hrow:=hS.row;simp only[bV,aE]at hrow;have hrowL:=bU hrow;refine eW (N:=11) Tryz.func39 rfl rfl zz (.int _ _) λhb'=> ?_
 repeat refine wS ?_
 refine eE (by simp only[kA,seval,aE,hrow,hrowL]<;>with_reducible rfl) z7 ?_
 repeat refine wS ?_
 refine wR ?_;refine eT 5 (by simp only[kA,seval,lZ,jI,uS,aE,hrow,hrowL]<;>with_reducible rfl) z7 ?_;refine oP (by simp only[kC,seval,aE,hrow,hrowL]<;>with_reducible rfl) (by simp only[kC,seval,aE,hrow,hrowL]) z7 aEk (GD S.ms name hl) ?_;refine xF (by simp only[kA,seval,aE,hrow,hrowL]<;>with_reducible rfl) z7 ?_
 repeat refine wS ?_
 refine wT ⟨.inr rfl,_,_,rfl, ?_,(by first|exact(aN9 _).symm|rfl)⟩;rfl
end Go.Abs
namespace Go.Abs
open Go.Proofs Go.Memo
def eM(ms:List Md)(name:List UInt8):Nat:=(ms.takeWhile λm=>decide (Lib.compareBytes m.name name<0)).length
def qY(ms:List Md)(name text:List UInt8):List Md:=if 0<=cN (aO name) ms then ms.set (cN (aO name) ms).toNat ⟨name,text⟩else ms.take (eM ms name)++⟨name,text⟩::ms.drop (eM ms name)
def wU(ms:List Md)(vs:List Int)(name:List UInt8):List Int:=if 0<=cN (aO name) ms then vs.set (cN (aO name) ms).toNat (IntKind.i64.wrap (vs.getD (cN (aO name) ms).toNat 0+1))else vs.take (eM ms name)++1::vs.drop (eM ms name)
theorem tW{ms:List Md}{name text:List UInt8}(hn:∀m∈ms,m.name.length<=maxLen)(h:name.length<=maxLen):∀m∈qY ms name text,m.name.length<=maxLen:=by
 intro m hm;unfold qY at hm
 split at hm
 ·rcases List.mem_or_eq_of_mem_set hm with hm|rfl
  ·exact hn m hm
  ·exact h
 ·rcases aN0.1 hm with hm|hm
  ·exact hn m (List.mem_of_mem_take hm)
  ·rcases aN2.1 hm with rfl|hm
   ·exact h
   ·exact hn m (List.mem_of_mem_drop hm)
theorem aAo(ms:List Md)(name text:List UInt8):(qY ms name text).length<=ms.length+1:=by
 unfold qY
 split
 ·simp
 ·simp only[aNo,aNe,aM7,aNd];omega
theorem dE.base{sr:Nat}{G:eL}{pid c1 c2:List Nat}{H H2 H':aH}(hl:H.length<=H2.length)(hs:∀j,j<H.length->H2[j]? =H[j]?)(f:dE (aE4 sr G pid c1 c2) (bW sr G pid) H2 H')(h1:∀i∈c1,H.length<=i)(h2:∀i∈c2,H.length<=i):dE (bW sr G pid) (bW sr G pid) H H':=
 ⟨aMr hl f.len,λid q1 q2=>(f.same id (aMs q1 hl) (λh=>by
  rcases h with h|h|h
  ·exact q2 h
  ·have:=h1 id h;omega
  ·have:=h2 id h;omega)).trans (hs id q1),λid h _=>h⟩
theorem AP(ms:List Md)(name:List UInt8):eM ms name<=ms.length:=by
 unfold eM;exact(List.takeWhile_prefix _).length_le
theorem xO{α:Type}(p:α->Bool):∀(xs:List α) (j:Nat) (h:j<xs.length),j<(xs.takeWhile p).length->p xs[j]=true
 | [],_,h,_=>by cases h
 |x::xs,j,h,hj=>by
  rw[List.takeWhile_cons]at hj
  split at hj
  ·rename_i hp;cases j with
   |zero=>exact hp
   |succ j=>exact xO p xs j (by simpa using h) (by simpa using hj)
  ·cases hj
theorem IH{ms:List Md}{name:List UInt8}(j:Nat)(h:j<ms.length)(hj:j<eM ms name):Lib.compareBytes ms[j].name name<0:=of_decide_eq_true (xO (λm:Md=>decide (Lib.compareBytes m.name name<0)) ms j h hj)
theorem RG{bA n sr:Nat}{S:fX}{tl1 tl2:bE}{pv:PV}{loc:QK->Nat}{st:Memo.St}{G:eL}{pid:List Nat}{H:aH}(hS:jR bA n sr S tl1 tl2 pv loc st G pid H)(name text:List UInt8)(hl:S.ms.length<=8)(hlv:S.vs.length=S.ms.length)(hn:∀m∈S.ms,m.name.length<=maxLen)(hnm:name.length<=maxLen)(hst:∀j (h:j<S.ms.length),eM S.ms name<=j->¬Lib.compareBytes S.ms[j].name name<0)(hd0:∀q,(st.cell q).d=0)(hnow:st.now+3000<2^62)(hrev:0<=S.rev/\S.rev<2^40):aR Tryz.prog 26 [.optr sr 0, .str name, .str text] H (λr H'=>XN bA n sr S tl1 tl2 pv loc st G pid (qY S.ms name text) (wU S.ms S.vs name) r H'/\dE (bW sr G pid) (bW sr G pid) H H'):=by
 have hrow:=hS.row;simp only[bV,aE]at hrow;have hrowL:=bU hrow;have hml:S.ms.length<=maxLen:=by
  have em:maxLen=9223372036854775807:=z7
  omega
 refine aF (N:=61) Tryz.func26 rfl rfl zz λhb'=> ?_;refine aV (aS hrow hrowL) ?_
 repeat refine wS ?_
 refine lM (D:=PV×PV×List Nat×List Nat) 12 (by kernel_rfl) rfl [0,1,3,7,15,0,32,96,224,511,1023,2047] (by kernel_rfl) [(12,0),(13,1),(14,2),(0,12),(1,13),(2,14),(3,15),(4,16),(5,17),(6,18),(7,19),(8,20),(9,21),(10,7),(11,8)] (λd=> [.optr sr 0, .str name, .str text, .optr sr 0, .optr sr 0, .optr sr 0, .slice (S.ms.map Md.enc) tl1,d.1, .optr sr 0, .optr sr 0, .optr sr 1, .slice (S.vs.map aE) tl2,d.2.1,d.1,d.2.1]) (λd m HX=>((m 4=true->fV Md.enc 2 HX d.1 S.ms d.2.2.1/\∀i∈d.2.2.1,H.length<=i)/\(m 9=true->fV aE 1 HX d.2.1 S.vs d.2.2.2/\∀i∈d.2.2.2,H.length<=i/\i∉d.2.2.1)/\H.length<=HX.length/\∀j,j<H.length->HX[j]? =H[j]?)) (.junk, .junk,[],[]) ⟨.inr rfl, .inr rfl, .inr rfl, .inl z7, .inl z7, .inl z7, .inl z7, .inl z7, .inl z7, .inl z7, .inl z7, .inl z7, .inl z7, .inl z7, .inl z7,trivial⟩ (⟨λh=>(Bool.noConfusion h),λh=>(Bool.noConfusion h),aMq _,λ_ _=>rfl⟩) ⟨?_, ?_, ?_, ?_, ?_, ?_, ?_, ?_, ?_, ?_, ?_, ?_,trivial⟩ ?_
 ·
  intro m d HX hm hp hno hge hg;have hrX:=(hg.2.2.2 sr (lG hrow)).trans hrow;have hrXL:=bU hrX;exact bH (bR (hge 12 z7) hrX hrXL) ⟨d,hg,cU 0 12⟩
 ·
  intro m d HX hm hp hno hge hg;have hrX:=(hg.2.2.2 sr (lG hrow)).trans hrow;have hrXL:=bU hrX;exact bH (bR (hp 0 rfl) hrX hrXL) ⟨d,hg,cU 1 13⟩
 ·
  intro m d HX hm hp hno hge hg;have hrX:=(hg.2.2.2 sr (lG hrow)).trans hrow;have hrXL:=bU hrX;exact bH (bD uS (hp 1 rfl) hrX hrXL) ⟨d,hg,cU 2 14⟩
 ·
  intro m d HX hm hp hno hge hg;have hrX:=(hg.2.2.2 sr (lG hrow)).trans hrow;have hrXL:=bU hrX;exact bH (bL lZ jI (hp 2 rfl) hrX hrXL) ⟨d,hg,cU 3 15⟩
 ·
  intro m d HX hm hp hno hge hg;have hrX:=(hg.2.2.2 sr (lG hrow)).trans hrow;have hrXL:=bU hrX;have m3:=hp 3 rfl;have n9:=hno 9 rfl;have n10:=hno 10 rfl;refine oW (bR m3 hrX hrXL) YU (IS S.ms z8 HX) ?_;rintro r H1 ⟨cid,k1,k2,k3,k4⟩;exact oN ⟨(r,d.2.1,cid,d.2.2.2),⟨λ_=>⟨k1,λi hi=>aMr hg.2.2.1 (k2 i hi)⟩,oU n9,aMr hg.2.2.1 k3,λj hj=>(k4 j (aMs hj hg.2.2.1)).trans (hg.2.2.2 j hj)⟩,ZtF 4 16 n9 n10⟩
 ·
  intro m d HX hm hp hno hge hg;have hrX:=(hg.2.2.2 sr (lG hrow)).trans hrow;have hrXL:=bU hrX;exact bH (bR (hge 12 z7) hrX hrXL) ⟨d,hg,cU 5 17⟩
 ·
  intro m d HX hm hp hno hge hg;have hrX:=(hg.2.2.2 sr (lG hrow)).trans hrow;have hrXL:=bU hrX;exact bH (bR (hp 5 rfl) hrX hrXL) ⟨d,hg,cU 6 18⟩
 ·
  intro m d HX hm hp hno hge hg;have hrX:=(hg.2.2.2 sr (lG hrow)).trans hrow;have hrXL:=bU hrX;exact bH (bD uS (hp 6 rfl) hrX hrXL) ⟨d,hg,cU 7 19⟩
 ·
  intro m d HX hm hp hno hge hg;have hrX:=(hg.2.2.2 sr (lG hrow)).trans hrow;have hrXL:=bU hrX;exact bH (bL y3 lW (hp 7 rfl) hrX hrXL) ⟨d,hg,cU 8 20⟩
 ·
  intro m d HX hm hp hno hge hg;have hrX:=(hg.2.2.2 sr (lG hrow)).trans hrow;have hrXL:=bU hrX;have m8:=hp 8 rfl;have n11:=hno 11 rfl;refine oW (bR m8 hrX hrXL) SF (RN S.vs z8 HX) ?_;rintro r H1 ⟨cid,k1,k2,k3,k4⟩;have m4:=hp 4 rfl;obtain⟨q1,q2⟩:=hg.1 m4;exact oN ⟨(d.1,r,d.2.2.1,cid),⟨λ_=>⟨q1.fr λi hi=>k4 i (q1.lt i hi),q2⟩,λ_=>⟨k1,λi hi=>⟨aMr hg.2.2.1 (k2 i hi),λh=>absurd (q1.lt i h) (Nat.not_lt.2 (k2 i hi))⟩⟩,aMr hg.2.2.1 k3,λj hj=>(k4 j (aMs hj hg.2.2.1)).trans (hg.2.2.2 j hj)⟩,ZtE 9 21 n11⟩
 ·
  intro m d HX hm hp hno hge hg;have hrX:=(hg.2.2.2 sr (lG hrow)).trans hrow;have hrXL:=bU hrX;exact bH (bR (hp 4 rfl) hrX hrXL) ⟨d,hg,cU 10 7⟩
 ·
  intro m d HX hm hp hno hge hg;have hrX:=(hg.2.2.2 sr (lG hrow)).trans hrow;have hrXL:=bU hrX;exact bH (bR (hp 9 rfl) hrX hrXL) ⟨d,hg,cU 11 8⟩
 intro d HF hg;obtain⟨g1,g2,g3,g4⟩:=hg;obtain⟨k1,k2⟩:=g1 rfl;obtain⟨k3,k4⟩:=g2 rfl;obtain⟨cv1,cv2,cid1,cid2⟩:=d;simp only at k1 k2 k3 k4;have hSF:jR bA n sr S tl1 tl2 pv loc st G pid HF:=hS.fr (g4 0 (lG hS.go)) λi hi=>g4 i (hS.lt i hi);have h0l:=lG hS.go;clear g1 g2;refine eG (F:=gM [(0, .optr sr 0),(1, .str name),(2, .str text),(7,cv1),(8,cv2)]) (cO ⟨rfl,rfl,rfl,rfl,rfl,trivial⟩) ?_;refine eA 2 (aS hrow hrowL) ?_;refine qT (aS hrow hrowL) MG (xJ hSF name hml) ?_;refine bH (aS hrow hrowL) ?_;refine gQ [0,1,2,7,8,9] (aS hrow hrowL) ?_;refine aV (bR y3 hrow hrowL) ?_;refine gG (aS hrow hrowL) (λbt26=> ?_) (λbt26=> ?_)
 ·
  have hi0:0<=cN (aO name) S.ms:=of_decide_eq_true bt26;obtain⟨i,hi,hii,hsn⟩:∃i,∃h:i<S.ms.length,cN (aO name) S.ms=(i:Int)/\S.ms[i].name=name:=by
   rcases kY (aO name) S.ms with⟨e,_⟩| ⟨i,h,e,e2,_⟩
   ·rw[e]at hi0;cases hi0
   ·exact⟨i,h,e,of_decide_eq_true e2⟩
  rcases k1.cases2 with⟨e,_,_⟩| ⟨ic,c,rest,rfl,rfl,hH1,hc1,hm1⟩
  ·rw[e]at hi;cases hi
  rcases k3.cases2 with⟨e,_,_⟩| ⟨ic2,c2,rest2,rfl,rfl,hH2,hc2,hm2⟩
  ·rw[e]at hlv;rw[<-hlv]at hi;cases hi
  have hiv:i<S.vs.length:=z8
  obtain⟨se1,sl1⟩:=xH (enc:=Md.enc) (sz:=2) Md.enc_len (xs:=S.ms) (i:=i) (j:=1) hi z7 (a:=⟨name,text⟩) (v:=.str text) (by rw[Md.enc_cells,Md.enc_cells,hsn];rfl) rest;obtain⟨se2,sl2⟩:=xH (enc:=aE) (sz:=1) (λ_=>rfl) (xs:=S.vs) (i:=i) (j:=0) hiv z7 (a:=IntKind.i64.wrap (S.vs[i]+1)) (v:=aE (IntKind.i64.wrap (S.vs[i]+1))) rfl rest2;obtain⟨ge2,gl2⟩:=xV (enc:=aE) (sz:=1) (λ_=>rfl) (pre:= []) (rest:=rest2) hiv;simp only[aN7,aOa,aNn,Nat.mul_one,aNm]at ge2 gl2 se2 sl2;obtain⟨RA,hRA⟩:∃R,R=aL (S.ms.map Md.enc)++rest:=⟨_,rfl⟩;obtain⟨RB,hRB⟩:∃R,R=aL (S.vs.map aE)++rest2:=⟨_,rfl⟩;rw[<-hRA]at hH1 se1 sl1;rw[<-hRB]at hH2 se2 sl2 ge2 gl2;have gix:=fS hi;have gix2:((0:Int)<=(i:Int)/\(i:Int)<(S.vs.length:Int))=True:=by simp;omega
  have gix1:((0:Int)<=(i:Int)/\(i:Int)<(S.ms.length:Int))=True:=by simp;omega
  have gv:RB[i]? =some (.int .i64 S.vs[i]):=by
   rw[aNi sl2];have:=congrArg (λl=>l[0]?) ge2;simp only[List.getElem?_take,List.getElem?_drop,aNm]at this;rw[if_pos z7,aNi sl2]at this;exact this
  have NN:(i*2+1+1<=RA.length)=True:=eq_true z8;have OM:(i+1<=RB.length)=True:=eq_true z8;have hne:ic2≠ic:=λe=>(k4 ic2 zz).2 (by simp[e]);have hl1:=lG hH1;have hl2:=lG hH2;have nic:(ic=HF.length)=False:=by simp;omega
  have ql1:=k2 ic zz;have ql2:=(k4 ic2 zz).1;refine aV (aG y9 lZ jI hrow hrowL nic (bL hii hH1 gix1 NN zqA)) ?_
  repeat refine wS ?_
  refine dI (λHZ=>HZ[ic]? =some (.row (aL ((S.ms.set i ⟨name,text⟩).map Md.enc)++rest))/\HZ[ic2]? =some (.row RB)/\(∀j,j≠ic->HZ[j]? =HF[j]?)/\HZ.length=HF.length) ⟨by rw[aM4 hl1,<-se1],by rw[aM5 (Ne.symm hne)];exact hH2,λj hj=>aM5 (Ne.symm hj),zz⟩ ?_;rintro HZ ⟨z1,z2,z3,z4⟩;have nic2:(ic2=HZ.length)=False:=by simp;omega
  refine eE (fI (aG y3 lW hrow hrowL nic2 hii (cF z2 gix2 gv OM zqA Nat.mul_one))) z7 ?_
  repeat refine wS ?_
  refine dI (λHY=>HY[ic]? =some (.row (aL ((S.ms.set i ⟨name,text⟩).map Md.enc)++rest))/\HY[ic2]? =some (.row (aL ((S.vs.set i (IntKind.i64.wrap (S.vs[i]+1))).map aE)++rest2))/\(∀j,j≠ic->j≠ic2->HY[j]? =HF[j]?)/\HY.length=HF.length) ⟨by rw[aM5 hne];exact z1,by rw[aM4 z8,<-se2],λj hj hj2=>by rw[aM5 (Ne.symm hj2)];exact z3 j hj,by simp[z4]⟩ ?_;rintro HY ⟨y1,y2,y3,y4⟩;have hSY:jR bA n sr S tl1 tl2 pv loc st G pid HY:=hSF.fr (y3 0 z8 z8) λj hj=>y3 j (by have:=hS.lt j hj;omega) (by have:=hS.lt j hj;omega);have hwm:qY S.ms name text=S.ms.set i ⟨name,text⟩:=by unfold qY;rw[if_pos hi0,hii,tN]
  have hwv:wU S.ms S.vs name=S.vs.set i (IntKind.i64.wrap (S.vs[i]+1)):=by unfold wU;rw[if_pos hi0,hii,tN,aNj,aNi hiv];rfl
  have hyl:∀j,j<H.length->HY[j]? =H[j]? :=λj hj=>(y3 j z8 z8).trans (g4 j hj);refine wR ?_;refine DS 3 (aS hrow hrowL) ?_;refine oW (aS hrow hrowL) RP (uM hSY (S.ms.set i ⟨name,text⟩) (S.vs.set i (IntKind.i64.wrap (S.vs[i]+1))) (fV.of zz y1 hc1 hm1) (fV.of zz y2 hc2 hm2) (λj hj=>by rcases hj with hj|hj<;>rw[aN8]at hj<;>omega) (λj hj h=>by rw[aN8]at hj;have:=hS.lt j h;omega) (λj hj h=>by rw[aN8]at hj;have:=hS.lt j h;omega) (λj hj h=>by rw[aN8]at hj h;exact hne (hj.symm.trans h)) (by simp;omega) (by rw[<-hwm];exact tW hn hnm) hd0 hnow hrev) ?_;rintro r H1 ⟨hR,fR⟩;refine bH (aS hrow hrowL) ?_
  repeat refine wS ?_
  refine wT ⟨.inr rfl,_,rfl, ?_⟩;rw[hwm,hwv];exact⟨hR,dE.base z8 hyl fR (λj hj=>by rw[aN8]at hj;omega) (λj hj=>by rw[aN8]at hj;omega)⟩
 ·
  have hi0:¬0<=cN (aO name) S.ms:=of_decide_eq_false bt26;obtain⟨p,hp⟩:∃p,p=eM S.ms name:=⟨_,rfl⟩;have hpl:=AP S.ms name;rw[<-hp]at hpl;have hwm:qY S.ms name text=S.ms.take p++⟨name,text⟩::S.ms.drop p:=by unfold qY;rw[if_neg hi0,hp]
  have hwv:wU S.ms S.vs name=S.vs.take p++1::S.vs.drop p:=by unfold wU;rw[if_neg hi0,hp]
  repeat refine wS ?_
  refine wK ?_;refine eA 2 (aS hrow hrowL) ?_;refine kW (DT eO) (bP eO) z7 aIk (SZ S.ms name k1 z8 p hpl (λj h hj=>IH j h z8) (λj h hj=>hst j h z8)) ?_;rintro _ HX ⟨⟨b,rfl⟩,hX⟩;rw[hX];clear hX;refine bH (aS hrow hrowL) ?_;rcases aMo p S.ms.length with hpn|hpn
  ·
   rcases k1.cases2 with⟨e,_,_⟩| ⟨ic,c,rest,rfl,rfl,hH1,hc1,hm1⟩
   ·rw[e]at hpn;cases hpn
   rcases k3.cases2 with⟨e,_,_⟩| ⟨ic2,c2,rest2,rfl,rfl,hH2,hc2,hm2⟩
   ·rw[e]at hlv;rw[<-hlv]at hpn;cases hpn
   have hne:ic2≠ic:=λe=>(k4 ic2 zz).2 (by simp[e]);refine eA 6 jI ?_;refine MZ (es:= [.agg [.str name, .str text]]) (bP eO) rfl z7 dZ rJ rfl z7 z7 z7 (by simp only[kA,seval,lZ,jI,aE,pB]<;>with_reducible rfl) ?_;have nHF:ic<HF.length:=lG hH1;refine aFq aEs (aH2 S.ms p hpn z8 (a:=⟨name,text⟩) (by rw[aM0 nHF];exact hH1) hc1 hm1 (by rw[aM1 (aMq _),aNt];simp[aL];rfl) z8) ?_;rintro _ HA ⟨ia,ca,ra,rfl,a1,a2,a3,a4,a5,a6⟩;simp only[aNo,aM7,aOa,aNn]at a4 a5 a6;have hAl:∀j,j<HF.length->j≠ic->HA[j]? =HF[j]? :=λj hj hn=>(a6 j z8 hn).trans (aM0 hj);have hA2:HA[ic2]? =some (.row (aL (S.vs.map aE)++rest2)):=(hAl ic2 (lG hH2) hne).trans hH2;have hA2l:=lG hA2;have hA1l:=lG a1;refine aFa 2 ?_;refine MZ (es:= [aE 1]) (bP eO) rfl z7 eD zX rfl z7 z7 z7 (by simp only[kA,seval,y3,lW,aE,pB]<;>with_reducible rfl) ?_;refine aFq aEe (aKp S.vs p z8 z8 (a:=1) (by rw[aM0 hA2l];exact hA2) hc2 hm2 (by rw[aM1 (aMq _),aNt];simp[aL]) z8) ?_;rintro _ HB ⟨ib,cb,rb,rfl,b1,b2,b3,b4,b5,b6⟩;simp only[aNo,aM7,aOa,aNn]at b4 b5 b6;have hBl:∀j,j<HA.length->j≠ic2->HB[j]? =HA[j]? :=λj hj hn=>(b6 j z8 hn).trans (aM0 hj);have ql1:=k2 ic zz;have ql2:=(k4 ic2 zz).1;have hyl:∀j,j<H.length->HB[j]? =H[j]? :=λj hj=>((hBl j z8 z8).trans (hAl j z8 z8)).trans (g4 j hj);have nia:ia≠ic2:=by have:=lG hH2;omega
   have hsv:jR bA n sr S tl1 tl2 pv loc st G pid HB:=hS.fr (hyl 0 h0l) λj hj=>hyl j (hS.lt j hj);refine kW (DT eO) (bP eO) z7 RP (uM hsv (S.ms.take p++⟨name,text⟩::S.ms.drop p) (S.vs.take p++1::S.vs.drop p) (fV.of (by simp;omega) ((hBl ia hA1l nia).trans a1) a2 a3) (fV.of (by simp;omega) b1 b2 b3) (λj hj=>by rcases hj with hj|hj<;>rw[aN8]at hj<;>omega) (λj hj h=>by rw[aN8]at hj;have:=hS.lt j h;omega) (λj hj h=>by rw[aN8]at hj;have:=hS.lt j h;omega) (λj hj h=>by rw[aN8]at hj h;omega) (by rw[<-hwm];have:=aAo S.ms name text;omega) (by rw[<-hwm];exact tW hn hnm) hd0 hnow hrev) ?_;rintro r HC ⟨hR,fR⟩;refine CJ ?_;have hfin:dE (bW sr G pid) (bW sr G pid) H HC:=dE.base z8 hyl fR (λj hj=>by rw[aN8]at hj;omega) (λj hj=>by rw[aN8]at hj;omega)
   repeat refine wS ?_
   refine wT ⟨.inr rfl,_,rfl, ?_⟩;rw[hwm,hwv];exact⟨hR,hfin⟩
  ·
   obtain rfl:p=S.ms.length:=z8
   have hwe:qY S.ms name text=S.ms++ [⟨name,text⟩]:=by rw[hwm,aOj,List.drop_length]
   have hwf:wU S.ms S.vs name=S.vs++ [1]:=by rw[hwv,<-hlv,aOj,List.drop_length]
   refine eA 7 (aS lZ jI) ?_;refine kW (DT eO) (bP eO) z7 aEs (zI (xs:= [cv1,aE (S.ms.length:Int)]) (z:=.slice [.agg [.str name, .str text]] .full) (ys:= []) (ZH S.ms z8 (a:=⟨name,text⟩) k1)) ?_;rintro c1 HA ⟨ci1,a1,a2,a3,a4⟩;refine DS 3 (aS y3 lW) ?_;have hE2:=aCt S.vs z8 (a:=1) (k3.fr λi hi=>a4 i (k3.lt i hi) (k4 i hi).2);rw[hlv]at hE2;refine kW (DT eO) (bP eO) z7 aEe (zI (xs:= [cv2,aE (S.ms.length:Int)]) (z:=.slice [aE 1] .full) (ys:= []) hE2) ?_;rintro c2 HB ⟨ci2,b1,b2,b3,b4⟩;have q1:∀i∈ci1,H.length<=i:=λi hi=>by
    rcases a2 i hi with h|h
    ·exact k2 i h
    ·omega
   have q2:∀i∈ci2,H.length<=i:=λi hi=>by
    rcases b2 i hi with h|h
    ·exact(k4 i h).1
    ·omega
   have hdj:∀i∈ci2,i∉ci1:=λi hi hj=>by
    rcases b2 i hi with h|h
    ·rcases a2 i hj with h2|h2
     ·exact(k4 i h).2 h2
     ·have:=k3.lt i h;omega
    ·have:=a1.lt i hj;omega
   have nd1:∀i∈ci1,i∉cid2:=λi hi hj=>by
    rcases a2 i hi with h2|h2
    ·exact(k4 i hj).2 h2
    ·have:=k3.lt i hj;omega
   have hyl:∀j,j<H.length->HB[j]? =H[j]? :=λj hj=>((b4 j z8 (λh=>by have:=(k4 j h).1;omega)).trans (a4 j z8 (λh=>by have:=k2 j h;omega))).trans (g4 j hj);have hz1:∀i,i∈ci1\/i∈ci2->i≠0:=λi hi=>by
    rcases hi with hi|hi
    ·have:=q1 i hi;omega
    ·have:=q2 i hi;omega
   have hsv:jR bA n sr S tl1 tl2 pv loc st G pid HB:=hS.fr (hyl 0 h0l) λj hj=>hyl j (hS.lt j hj);refine kW (DT eO) (bP eO) z7 RP (uM hsv (S.ms++ [⟨name,text⟩]) (S.vs++ [1]) (a1.fr λi hi=>b4 i (a1.lt i hi) (nd1 i hi)) b1 hz1 (λi hi h=>absurd (hS.lt i h) (by have:=q1 i hi;omega)) (λi hi h=>absurd (hS.lt i h) (by have:=q2 i hi;omega)) hdj (by simp;omega) (by rw[<-hwe];exact tW hn hnm) hd0 hnow hrev) ?_;rintro r HC ⟨hR,fR⟩;refine CJ ?_;have hfin:dE (bW sr G pid) (bW sr G pid) H HC:=dE.base z8 hyl fR q1 q2
   repeat refine wS ?_
   refine wT ⟨.inr rfl,_,rfl, ?_⟩;rw[hwe,hwf];exact⟨hR,hfin⟩
end Go.Abs
namespace Go.Abs
open Go.Proofs Go.Memo
def tL{α:Type}(enc:α->PV)(sz:Nat)(H:aH)(ic c:Nat)(xs:List α):Prop:=∃rest:List PV,H[ic]? =some (.row (aL (xs.map enc)++rest))/\xs.length*sz+rest.length=c*sz/\c<=maxLen
theorem tL.fr{α:Type}{enc:α->PV}{sz:Nat}{H H':aH}{ic c:Nat}{xs:List α}(h:tL enc sz H ic c xs)(e:H'[ic]? =H[ic]?):tL enc sz H' ic c xs:=by
 obtain⟨rest,h1,h2,h3⟩:=h;exact⟨rest,e.trans h1,h2,h3⟩
theorem tL.lt{α:Type}{enc:α->PV}{sz:Nat}{H:aH}{ic c:Nat}{xs:List α}(h:tL enc sz H ic c xs):ic<H.length:=by
 obtain⟨rest,h1,h2,h3⟩:=h;exact lG h1
theorem tL.ok{α:Type}{enc:α->PV}{sz n:Nat}{H:aH}{ic c:Nat}{xs:List α}(h:tL enc sz H ic c xs)(hn:xs.length=n):fV enc sz H (.msl ic 0 n c) xs [ic]:=by
 obtain⟨rest,h1,h2,h3⟩:=h;exact fV.of hn h1 (by rw[<-hn];exact h2) h3
theorem lK{α:Type}{xs:List α}{i:Nat}(h:i<xs.length):(xs.eraseIdx i).length=xs.length-1:=by rw[List.length_eraseIdx,if_pos h]
theorem aAf{bA n sr:Nat}{S:fX}{tl1 tl2:bE}{pv:PV}{loc:QK->Nat}{st:Memo.St}{G:eL}{pid:List Nat}{H:aH}(hS:jR bA n sr S tl1 tl2 pv loc st G pid H)(name:List UInt8)(hl:S.ms.length<=8)(hlv:S.vs.length=S.ms.length)(hn:∀m∈S.ms,m.name.length<=maxLen)(hd0:∀q,(st.cell q).d=0)(hnow:st.now+3000<2^62)(hrev:0<=S.rev/\S.rev<2^40):aR Tryz.prog 27 [.optr sr 0, .str name] H (λr H'=>(cN (aO name) S.ms<0/\r=aE 5/\H'=H)\/∃i,i<S.ms.length/\cN (aO name) S.ms=(i:Int)/\XN bA n sr S tl1 tl2 pv loc st G pid (S.ms.eraseIdx i) (S.vs.eraseIdx i) r H'/\dE (bW sr G pid) (bW sr G pid) H H'):=by
 have hrow:=hS.row;simp only[bV,aE]at hrow;have hrowL:=bU hrow;have hml:S.ms.length<=maxLen:=by
  have em:maxLen=9223372036854775807:=z7
  omega
 have h0l:=lG hS.go;have em:maxLen=9223372036854775807:=z7
 refine aF (N:=31) Tryz.func27 rfl rfl zz λhb'=> ?_;refine aV (aS hrow hrowL) ?_;refine eA 2 (aS hrow hrowL) ?_;refine qT (aS hrow hrowL) MG (xJ hS name hml) ?_;refine bH (aS hrow hrowL) ?_;refine aV (bR y3 hrow hrowL) ?_;refine gG (aS hrow hrowL) (λbt10=> ?_) (λbt10=> ?_)
 ·
  have hneg:=of_decide_eq_true bt10;refine aV (aS hrow hrowL) ?_
  repeat refine wS ?_
  refine wT ⟨.inr rfl,_,rfl, ?_⟩;exact .inl ⟨hneg,rfl,rfl⟩
 ·
  have hpos:=of_decide_eq_false bt10;obtain⟨i,hi,hii⟩:∃i,i<S.ms.length/\cN (aO name) S.ms=(i:Int):=by
   rcases kY (aO name) S.ms with⟨e,_⟩| ⟨i,h,e,e2,_⟩
   ·rw[e]at hpos;exact absurd z7 hpos
   ·exact⟨i,h,e⟩
  have hiv:i<S.vs.length:=z8
  have gw:IntKind.i64.wrap ((i:Int)+1)=((i+1:Nat):Int):=by rw[cL z8 z8];omega
  rw[hii]
  repeat refine wS ?_
  refine wK ?_
  repeat refine wS ?_
  refine lM (D:=Nat×Nat×Nat×Nat×PV) 21 (by kernel_rfl) rfl [0,0,2,6,14,30,0,0,128,510,0,1024,3072,7168,16382,0,0,65536,262142,524287,1048575] (by kernel_rfl) [(21,0),(22,5),(0,11),(1,12),(2,13),(3,14),(4,15),(5,16),(6,17),(7,18),(8,19),(9,20),(10,21),(11,22),(12,23),(13,24),(14,25),(15,26),(16,27),(17,28),(18,29),(19,30),(20,4)] (λd=> [.optr sr 0,aE (i:Int), .optr sr 0, .optr sr 0, .optr sr 0, .optr sr 0, .slice (S.ms.map Md.enc) tl1, .msl d.1 0 S.ms.length d.2.1,aE (i:Int),aE (i:Int),aE ((i+1:Nat):Int), .msl d.1 0 (S.ms.length-1) d.2.1, .optr sr 0, .optr sr 0, .optr sr 1, .slice (S.vs.map aE) tl2, .msl d.2.2.1 0 S.vs.length d.2.2.2.1,aE (i:Int),aE (i:Int),aE ((i+1:Nat):Int), .msl d.2.2.1 0 (S.vs.length-1) d.2.2.2.1,d.2.2.2.2,d.2.2.2.2]) (λd m HX=>((m 5=true->(m 9=false->tL Md.enc 2 HX d.1 d.2.1 S.ms)/\(m 9=true->m 19=false->tL Md.enc 2 HX d.1 d.2.1 (S.ms.eraseIdx i))/\H.length<=d.1)/\(m 14=true->(m 18=false->tL aE 1 HX d.2.2.1 d.2.2.2.1 S.vs)/\(m 18=true->m 19=false->tL aE 1 HX d.2.2.1 d.2.2.2.1 (S.vs.eraseIdx i))/\H.length<=d.2.2.1/\d.2.2.1≠d.1)/\(m 19=false->H.length<=HX.length/\∀j,j<H.length->HX[j]? =H[j]?)/\(m 19=true->XN bA n sr S tl1 tl2 pv loc st G pid (S.ms.eraseIdx i) (S.vs.eraseIdx i) d.2.2.2.2 HX/\dE (bW sr G pid) (bW sr G pid) H HX))) (0,0,0,0, .junk) ⟨.inr rfl, .inr rfl, .inl z7, .inl z7, .inl z7, .inl z7, .inl z7, .inl z7, .inl z7, .inl z7, .inl z7, .inl z7, .inl z7, .inl z7, .inl z7, .inl z7, .inl z7, .inl z7, .inl z7, .inl z7, .inl z7, .inl z7, .inl z7,trivial⟩ (⟨λh=>(Bool.noConfusion h),λh=>(Bool.noConfusion h),λ_=>⟨aMq _,λ_ _=>rfl⟩,λh=>(Bool.noConfusion h)⟩) ⟨?_, ?_, ?_, ?_, ?_, ?_, ?_, ?_, ?_, ?_, ?_, ?_, ?_, ?_, ?_, ?_, ?_, ?_, ?_, ?_, ?_,trivial⟩ ?_
  ·
   intro m d HX hm hp hno hge hg;have n19:=hno 19 rfl;obtain⟨gL,gH⟩:=hg.2.2.1 n19;have hrX:=(gH sr (lG hrow)).trans hrow;have hrXL:=bU hrX;exact bH (bD (hge 21 z7) hrX hrXL gw) ⟨d,hg,cU 0 11⟩
  ·
   intro m d HX hm hp hno hge hg;have n19:=hno 19 rfl;obtain⟨gL,gH⟩:=hg.2.2.1 n19;have hrX:=(gH sr (lG hrow)).trans hrow;have hrXL:=bU hrX;exact bH (bD (hge 21 z7) hrX hrXL gw) ⟨d,hg,cU 1 12⟩
  ·
   intro m d HX hm hp hno hge hg;have n19:=hno 19 rfl;obtain⟨gL,gH⟩:=hg.2.2.1 n19;have hrX:=(gH sr (lG hrow)).trans hrow;have hrXL:=bU hrX;exact bH (bD (hp 1 rfl) hrX hrXL gw) ⟨d,hg,cU 2 13⟩
  ·
   intro m d HX hm hp hno hge hg;have n19:=hno 19 rfl;obtain⟨gL,gH⟩:=hg.2.2.1 n19;have hrX:=(gH sr (lG hrow)).trans hrow;have hrXL:=bU hrX;exact bH (bL uS (hp 2 rfl) hrX hrXL gw) ⟨d,hg,cU 3 14⟩
  ·
   intro m d HX hm hp hno hge hg;have n19:=hno 19 rfl;obtain⟨gL,gH⟩:=hg.2.2.1 n19;have hrX:=(gH sr (lG hrow)).trans hrow;have hrXL:=bU hrX;exact bH (cF lZ jI (hp 3 rfl) hrX hrXL gw) ⟨d,hg,cU 4 15⟩
  ·
   intro m d HX hm hp hno hge hg;have n19:=hno 19 rfl;obtain⟨gL,gH⟩:=hg.2.2.1 n19;have hrX:=(gH sr (lG hrow)).trans hrow;have hrXL:=bU hrX;have m4:=hp 4 rfl;have n9:=hno 9 rfl;have n14:=hno 14 rfl;refine oW (bD m4 hrX hrXL gw) YU (IS S.ms z8 HX) ?_;rintro r H1 ⟨cid,k1,k2,k3,k4⟩;rcases k1.cases2 with⟨e,_,_⟩| ⟨ic,c,rest,rfl,rfl,hH1,hc1,hm1⟩
   ·rw[e]at hi;cases hi
   exact oN ⟨(ic,c,d.2.2),⟨λ_=>⟨λ_=>⟨rest,hH1,hc1,hm1⟩,oU n9,aMr gL (k2 ic zz)⟩,oU n14,λ_=>⟨aMr gL k3,λj hj=>(k4 j (aMs hj gL)).trans (gH j hj)⟩,oU n19⟩,ZtE 5 16 n9⟩
  ·
   intro m d HX hm hp hno hge hg;have n19:=hno 19 rfl;obtain⟨gL,gH⟩:=hg.2.2.1 n19;have hrX:=(gH sr (lG hrow)).trans hrow;have hrXL:=bU hrX;exact bH (bD (hge 22 z7) hrX hrXL gw) ⟨d,hg,cU 6 17⟩
  ·
   intro m d HX hm hp hno hge hg;have n19:=hno 19 rfl;obtain⟨gL,gH⟩:=hg.2.2.1 n19;have hrX:=(gH sr (lG hrow)).trans hrow;have hrXL:=bU hrX;exact bH (bD (hge 22 z7) hrX hrXL gw) ⟨d,hg,cU 7 18⟩
  ·
   intro m d HX hm hp hno hge hg;have n19:=hno 19 rfl;obtain⟨gL,gH⟩:=hg.2.2.1 n19;have hrX:=(gH sr (lG hrow)).trans hrow;have hrXL:=bU hrX;exact bH (bL y3 (hp 7 rfl) hrX hrXL gw) ⟨d,hg,cU 8 19⟩
  ·
   intro m d HX hm hp hno hge hg;have n19:=hno 19 rfl;obtain⟨gL,gH⟩:=hg.2.2.1 n19;have hrX:=(gH sr (lG hrow)).trans hrow;have hrXL:=bU hrX;have m5:=hp 5 rfl;have m6:=hp 6 rfl;have m8:=hp 8 rfl;have n14:=hno 14 rfl;have gA:=hg.1 m5;obtain⟨rest,hH1,hc1,hm1⟩:=gA.1 hm;have hlt:=lG hH1;refine oW (cF m5 m6 m8 hrX hrXL gw) aHq (aHz S.ms i hi (pre:= []) (rest:=rest) (id:=d.1) (c:=d.2.1) hH1 z8 hm1) ?_;rintro _ H1 ⟨rfl,rfl⟩;refine oN ⟨d,⟨λ_=>⟨λh=>Bool.noConfusion h,λ_ _=>⟨_,aM4 hlt,by rw[lK hi,aNo];simp only[aM7,aOa];omega,hm1⟩,gA.2.2⟩,oU n14,λ_=>⟨by rw[lS];exact gL,λj hj=>by rw[aM5 (by have:=gA.2.2;omega)];exact gH j hj⟩,oU n19⟩,TH 9 20⟩
  ·
   intro m d HX hm hp hno hge hg;have n19:=hno 19 rfl;obtain⟨gL,gH⟩:=hg.2.2.1 n19;have hrX:=(gH sr (lG hrow)).trans hrow;have hrXL:=bU hrX;exact bH (bD (hge 21 z7) hrX hrXL gw) ⟨d,hg,cU 10 21⟩
  ·
   intro m d HX hm hp hno hge hg;have n19:=hno 19 rfl;obtain⟨gL,gH⟩:=hg.2.2.1 n19;have hrX:=(gH sr (lG hrow)).trans hrow;have hrXL:=bU hrX;exact bH (bD (hp 10 rfl) hrX hrXL gw) ⟨d,hg,cU 11 22⟩
  ·
   intro m d HX hm hp hno hge hg;have n19:=hno 19 rfl;obtain⟨gL,gH⟩:=hg.2.2.1 n19;have hrX:=(gH sr (lG hrow)).trans hrow;have hrXL:=bU hrX;exact bH (bL uS (hp 11 rfl) hrX hrXL gw) ⟨d,hg,cU 12 23⟩
  ·
   intro m d HX hm hp hno hge hg;have n19:=hno 19 rfl;obtain⟨gL,gH⟩:=hg.2.2.1 n19;have hrX:=(gH sr (lG hrow)).trans hrow;have hrXL:=bU hrX;exact bH (cF y3 lW (hp 12 rfl) hrX hrXL gw) ⟨d,hg,cU 13 24⟩
  ·
   intro m d HX hm hp hno hge hg;have n19:=hno 19 rfl;obtain⟨gL,gH⟩:=hg.2.2.1 n19;have hrX:=(gH sr (lG hrow)).trans hrow;have hrXL:=bU hrX;have m13:=hp 13 rfl;have n18:=hno 18 rfl;have m5:=hp 5 rfl;have m9:=hp 9 rfl;have gA:=hg.1 m5;have gB:=gA.2.1 m9 n19;refine oW (bD m13 hrX hrXL gw) SF (RN S.vs z8 HX) ?_;rintro r H1 ⟨cid,k1,k2,k3,k4⟩;rcases k1.cases2 with⟨e,_,_⟩| ⟨ic,c,rest,rfl,rfl,hH1,hc1,hm1⟩
   ·rw[e]at hiv;cases hiv
   exact oN ⟨(d.1,d.2.1,ic,c,d.2.2.2.2),⟨λ_=>⟨oU m9,λ_ _=>gB.fr (k4 _ gB.lt),gA.2.2⟩,λ_=>⟨λ_=>⟨rest,hH1,hc1,hm1⟩,oU n18,aMr gL (k2 ic zz),λe=>by have h1:=gB.lt;have h2:=k2 ic zz;simp only at e;omega⟩,λ_=>⟨aMr gL k3,λj hj=>(k4 j (aMs hj gL)).trans (gH j hj)⟩,oU n19⟩,ZtE 14 25 n18⟩
  ·
   intro m d HX hm hp hno hge hg;have n19:=hno 19 rfl;obtain⟨gL,gH⟩:=hg.2.2.1 n19;have hrX:=(gH sr (lG hrow)).trans hrow;have hrXL:=bU hrX;exact bH (bD (hge 22 z7) hrX hrXL gw) ⟨d,hg,cU 15 26⟩
  ·
   intro m d HX hm hp hno hge hg;have n19:=hno 19 rfl;obtain⟨gL,gH⟩:=hg.2.2.1 n19;have hrX:=(gH sr (lG hrow)).trans hrow;have hrXL:=bU hrX;exact bH (bD (hge 22 z7) hrX hrXL gw) ⟨d,hg,cU 16 27⟩
  ·
   intro m d HX hm hp hno hge hg;have n19:=hno 19 rfl;obtain⟨gL,gH⟩:=hg.2.2.1 n19;have hrX:=(gH sr (lG hrow)).trans hrow;have hrXL:=bU hrX;exact bH (bL y3 (hp 16 rfl) hrX hrXL gw) ⟨d,hg,cU 17 28⟩
  ·
   intro m d HX hm hp hno hge hg;have n19:=hno 19 rfl;obtain⟨gL,gH⟩:=hg.2.2.1 n19;have hrX:=(gH sr (lG hrow)).trans hrow;have hrXL:=bU hrX;have m14:=hp 14 rfl;have m15:=hp 15 rfl;have m17:=hp 17 rfl;have m5:=hp 5 rfl;have m9:=hp 9 rfl;have gA:=hg.1 m5;have gB:=gA.2.1 m9 n19;have gC:=hg.2.1 m14;obtain⟨rest,hH1,hc1,hm1⟩:=gC.1 hm;have hlt:=lG hH1;refine oW (cF m14 m15 m17 hrX hrXL gw) aKe (aLb S.vs i hiv (pre:= []) (rest:=rest) (id:=d.2.2.1) (c:=d.2.2.2.1) hH1 z8 hm1) ?_;rintro _ H1 ⟨rfl,rfl⟩;refine oN ⟨d,⟨λ_=>⟨oU m9,λ_ _=>gB.fr (aM5 gC.2.2.2),gA.2.2⟩,λ_=>⟨λh=>Bool.noConfusion h,λ_ _=>⟨_,aM4 hlt,by rw[lK hiv,aNo];simp only[aM7,aOa];omega,hm1⟩,gC.2.2⟩,λ_=>⟨by rw[lS];exact gL,λj hj=>by rw[aM5 (by have:=gC.2.2.1;omega)];exact gH j hj⟩,oU n19⟩,TH 18 29⟩
  ·
   intro m d HX hm hp hno hge hg;have n19:m 19=false:=hm;obtain⟨gL,gH⟩:=hg.2.2.1 n19;have hrX:=(gH sr (lG hrow)).trans hrow;have hrXL:=bU hrX;have m0:=hp 0 rfl;have m9:=hp 9 rfl;have m18:=hp 18 rfl;have n20:=hno 20 rfl;have m5:=hp 5 rfl;have m9:=hp 9 rfl;have m14:=hp 14 rfl;have m18:=hp 18 rfl;have gA:=hg.1 m5;have gB:=gA.2.1 m9 n19;have gC:=hg.2.1 m14;have gD:=gC.2.1 m18 n19;have hsv:jR bA n sr S tl1 tl2 pv loc st G pid HX:=hS.fr (gH 0 h0l) λj hj=>gH j (hS.lt j hj);have hz1:∀j,j∈ [d.1]\/j∈ [d.2.2.1]->j≠0:=λj hj=>by
    have:=gA.2.2;have:=gC.2.2.1;rcases hj with hj|hj<;>rw[aN8]at hj<;>omega
   refine oW (cF m0 m9 m18 hrX hrXL gw) RP (uM hsv (S.ms.eraseIdx i) (S.vs.eraseIdx i) (gB.ok (lK hi)) (gD.ok (lK hiv)) hz1 (λj hj h=>by rw[aN8]at hj;have:=hS.lt j h;have:=gA.2.2;omega) (λj hj h=>by rw[aN8]at hj;have:=hS.lt j h;have:=gC.2.2.1;omega) (λj hj h=>by rw[aN8]at hj h;exact gC.2.2.2 (hj.symm.trans h)) (by rw[lK hi];omega) (λq hq=>hn q (List.mem_of_mem_eraseIdx hq)) hd0 hnow hrev) ?_;rintro r HC ⟨hR,fR⟩;have hfin:dE (bW sr G pid) (bW sr G pid) H HC:=dE.base gL gH fR (λj hj=>by rw[aN8]at hj;have:=gA.2.2;omega) (λj hj=>by rw[aN8]at hj;have:=gC.2.2.1;omega);exact oN ⟨(d.1,d.2.1,d.2.2.1,d.2.2.2.1,r),⟨λ_=>⟨oU m9,λ_ h=>Bool.noConfusion h,gA.2.2⟩,λ_=>⟨oU m18,λ_ h=>Bool.noConfusion h,gC.2.2⟩,λh=>Bool.noConfusion h,λ_=>⟨hR,hfin⟩⟩,ZtE 19 30 n20⟩
  ·
   intro m d HX hm hp hno hge hg;have hrX:=hrow;have hrXL:=hrowL;exact bH (bD (hp 19 rfl) hrX hrXL gw) ⟨d,hg,cU 20 4⟩
  intro d HF hg;obtain⟨hR,hF⟩:=hg.2.2.2 rfl;obtain⟨dx1,dx2,dx3,dx4,r4⟩:=d;simp only at hR;refine eG (F:=gM [(4,r4)]) (cO ⟨rfl,trivial⟩) ?_
  repeat refine wS ?_
  refine wT ⟨.inr rfl,_,rfl, ?_⟩;exact .inr ⟨i,hi,rfl,hR,hF⟩
end Go.Abs
namespace Go.Abs
open Go.Proofs Go.Memo
def sT(client id:Int)(r:Rq):Bool:=decide (r.cl=client)&&decide (r.id=id)
theorem aCe{H:aH}{a b:Nat}{client id:Int}(ha:H[a]? =some (.row [aE client]))(hb:H[b]? =some (.row [aE id]))(r:Rq):aR Tryz.prog 82 [r.enc, .optr a 0, .optr b 0] H λr' H'=>r'= .bool (sT client id r)/\H'=H:=by
 simp only[aE]at ha hb;have qa:=bU ha;have qb:=bU hb;refine eW (N:=15) Tryz.func82 rfl rfl zz (.bool _) λhb'=> ?_;refine aV (aG jH qM qR ha qa hb qb) ?_;refine tJ (aG y3 jH qM qR ha qa (aS hb qb)) ?_
 repeat refine wS ?_
 refine wT ⟨.inr rfl,_,_,rfl, ?_,sP⟩
 first|rfl| (simp only[jN,seval,aE,qM,qR,sT];rfl)| (unfold sT;cases decide (r.cl=client)<;>rfl)
theorem LQ{f:FuncId}{caps:List PV}{H:aH}{us:List Rq}{p:Rq->Bool}(hc:aEu Tryz.prog Rq.enc f caps H us p){cv:PV}{cid:List Nat}(hk:vK Rq.enc 5 H cv us cid)(hl:us.length<=1000000):aR Tryz.prog 81 [cv, .fn (.func f) [] caps] H λr' H'=>r'=aE (cN p us)/\H'=H:=by
 have hgo:=hc.go;refine aF (N:=19) Tryz.func81 rfl rfl zz λhb'=> ?_;refine aV (aS qM qR) ?_;rcases hk.cases2 with⟨hxs,hcv,hcd⟩| ⟨id,c,pre,rest,hcv,hcd,hH,hcc,hm,hm2⟩
 ·
  subst hxs;subst hcv;refine aV (bD jH qU qM qR) ?_
  repeat refine wS ?_
  refine bJ ?_;refine fF (σ:=Nat) (λ(z:Nat)=> [(0, .slice [] .full),(1, .fn (.func f) [] caps),(7,aE 0),(8,aE (z:Int))]) (λ(z:Nat)=>λH1=>z<=0/\H1=H) (λ(z:Nat)=>0-z) (0) ⟨(dJ (aS qM qR)),(dJ (aS qM qR)),(dJ (aS qM qR)),(dJ (aS qM qR)),trivial⟩ (⟨aMq _,rfl⟩) ?_;intro z H1 hg;obtain⟨hz,hHe⟩:=hg;subst hHe;obtain rfl:z=0:=z8
  have gl:decide (((0:Nat):Int)<0)=false:=rfl;refine aV (bD y3 qM qR gl) ?_;refine pJ (bR qM qR gl) ?_
  repeat refine wS ?_
  refine dO ?_;simp only[bQ,cB,reduceIte,Nat.reduceEqDiff,aOf,if_true,if_false];refine aV (bR qM qR gl) ?_
  repeat refine wS ?_
  refine wT ⟨.inr rfl,_,rfl, ?_⟩;exact⟨rfl,rfl⟩
 ·
  subst hcv;refine aV (bD jH qU qM qR) ?_
  repeat refine wS ?_
  refine bJ ?_;refine fF (σ:=Nat) (λ(z:Nat)=> [(0, .msl id pre.length us.length c),(1, .fn (.func f) [] caps),(7,aE (us.length:Int)),(8,aE (z:Int))]) (λ(z:Nat)=>λH2=>z<=us.length/\(us.take z).any p=false/\H2=H) (λ(z:Nat)=>us.length-z) (0) ⟨(dJ (aS qM qR)),(dJ (aS qM qR)),(dJ (aS qM qR)),(dJ (aS qM qR)),trivial⟩ (⟨aNs _,rfl,rfl⟩) ?_;intro z H2 hg;obtain⟨hz,hany,hHe⟩:=hg;subst hHe;have gl:decide ((z:Int)<(us.length:Int))=decide (z<us.length):=by rw[decide_eq_decide];omega
  refine aV (bD y3 qM qR gl) ?_;refine gG (bR qM qR gl) (λbt9=> ?_) (λbt9=> ?_)
  ·
   have hlt:z<us.length:=of_decide_eq_true bt9;have gix:((0:Int)<=(z:Int)/\(z:Int)<(us.length:Int))=True:=by simp;omega
   obtain⟨ge,gf⟩:=xV (enc:=Rq.enc) (sz:=5) Rq.enc_len (pre:=pre) (rest:=rest) hlt;obtain⟨RW,hRW⟩:∃R,R=pre++(aL (us.map Rq.enc)++rest):=⟨_,rfl⟩;rw[<-hRW]at hH ge gf;have gf2:(pre.length+z*5+5<=RW.length)=True:=eq_true gf;have gw:IntKind.i64.wrap ((z:Int)+1)=((z+1:Nat):Int):=by rw[cL z8 z8];omega
   obtain⟨rq,hrq⟩:∃m,m=us[z]:=⟨_,rfl⟩;rw[<-hrq]at ge;have gagg:PV.agg (rq.enc.cells.map PV.drop1)=rq.enc:=rfl
   repeat refine wS ?_
   refine wK ?_
   repeat refine wS ?_
   refine bJ ?_;refine aV (bR qM qR gl) ?_;refine eA 5 (aG jH qU qM qR gl hH (bD gix gf2 ge gagg)) ?_;refine oW (aG qM qR gl hH gix gf2 (aS ge gagg)) hgo (hc.call rq (by rw[hrq];exact aNq hlt)) ?_;rintro _ HX ⟨rfl,hX⟩;rw[hX];clear hX;refine oN ?_;refine gG (bR qM qR gl) (λbt16=> ?_) (λbt16=> ?_)
   ·
    have hpz:p us[z]=true:=by rw[<-hrq];exact bt16
    refine aV (bR qM qR gl) ?_
    repeat refine wS ?_
    refine wT ⟨.inr rfl,_,rfl, ?_⟩;exact⟨by rw[oQ hlt hpz hany];rfl,rfl⟩
   ·
    have hpz:p us[z]=false:=by rw[<-hrq];exact bt16
    repeat refine wS ?_
    refine wK ?_;refine aV (bL y3 qM qR gl gw) ?_
    try simp only[bQ,cB]
    exact⟨z+1,by show _<_;omega,(by repeat (first|exact trivial|refine⟨rfl, ?_⟩)),z8,iG hlt hany hpz,(by first|rfl|trivial)⟩
  ·
   have hge:=of_decide_eq_false bt9;obtain rfl:z=us.length:=z8
   rw[aOj]at hany
   repeat refine wS ?_
   refine dO ?_;simp only[bQ,cB,reduceIte,Nat.reduceEqDiff,aOf,if_true,if_false];refine aV (bR qM qR gl) ?_
   repeat refine wS ?_
   refine wT ⟨.inr rfl,_,rfl, ?_⟩;exact⟨by rw[nR hany];rfl,rfl⟩
theorem RO{bA n sr:Nat}{S:fX}{tl1 tl2:bE}{pv:PV}{loc:QK->Nat}{st:Memo.St}{G:eL}{pid:List Nat}{H:aH}(hS:jR bA n sr S tl1 tl2 pv loc st G pid H)(client id:Int)(hl:S.ps.length<=1000000):aR Tryz.prog 61 [.optr sr 0,aE client,aE id] H (λr H'=>r=aE (cN (sT client id) S.ps)/\H'=H):=by
 have hrow:=hS.row;simp only[bV,aE]at hrow;have hrowL:=bU hrow;obtain⟨hp1,hp2,hpj⟩:=hS.p.one;refine eW (N:=13) Tryz.func61 rfl rfl zz (.int _ _) λhb'=> ?_;refine aV (cF y3 qM qR hrow hrowL hpj) ?_;refine eA 5 (aG jH qU uS qM qR hrow (aS hrowL hpj)) ?_;refine kW (DT (bR qM qR hpj)) (bP (bR qM qR hpj)) z7 aJz (LQ (p:=sT client id) ⟨aJt,λc hc=>by simp only[aN2,aOc,or_false]at hc;rcases hc with rfl|rfl<;>exact bF.optr _ _ zz,λu _=>aCe zz zz u⟩ (hS.p.app _) hl) ?_;rintro _ _ ⟨rfl,rfl⟩;refine bH (bL qM qR hrow hrowL hpj) ?_
 repeat refine wS ?_
 refine wT ⟨.inr rfl,_,_,rfl, ?_,sP⟩;rfl
end Go.Abs
namespace Go.Abs
open Go.Proofs Go.Memo
theorem jR.setPs{bA n sr:Nat}{S:fX}{tl1 tl2:bE}{pv:PV}{loc:QK->Nat}{st:Memo.St}{G:eL}{pid:List Nat}{H:aH}(hS:jR bA n sr S tl1 tl2 pv loc st G pid H){H2:aH}{ps':List Rq}{pv':PV}{pid':List Nat}(hl:H.length<=H2.length)(hk:vK Rq.enc 5 H2 pv' ps' pid')(hrow:H2[sr]? =some (bV ⟨S.ms,S.vs,ps',S.rev⟩ tl1 tl2 pv' n))(hs:∀j,j<H.length->j∉pid->j≠sr->H2[j]? =H[j]?)(hid:∀i∈pid',i∈pid\/H.length<=i):
  jR bA n sr ⟨S.ms,S.vs,ps',S.rev⟩ tl1 tl2 pv' loc st G pid' H2/\dE (bW sr G pid) (bW sr G pid') H H2:=by
 have h0:=lG hS.go;have hsr:=lG hS.row;have hG:∀i,G i->i<H.length:=λi hi=>hS.lt i (.inl hi);have n0:0∉pid':=λh=>by
  rcases hid 0 h with h|h
  ·exact hS.n0.2.2 h
  ·omega
 have nsr:sr∉pid':=λh=>by
  rcases hid sr h with h|h
  ·exact hS.ns.2 h
  ·omega
 refine⟨⟨(hs 0 h0 hS.n0.2.2 hS.n0.2.1.symm).trans hS.go,hS.w.fr (yP _ _) λi hi=>hs i (hG i hi) (λh=>hS.np i h hi) (λe=>hS.ns.1 (e▸hi)),hrow,hS.t1,hS.t2,hk,⟨hS.n0.1,hS.n0.2.1,n0⟩,⟨hS.ns.1,nsr⟩,λi hi hg=>by
  rcases hid i hi with h|h
  ·exact hS.np i h hg
  ·have:=hG i hg;omega⟩,hl,λi h1 h2=>hs i h1 (λh=>h2 (.inr (.inr h))) (λh=>h2 (.inr (.inl h))),λi hi hl=> ?_⟩
 rcases hi with h|h|h
 ·exact .inl h
 ·exact .inr (.inl h)
 ·rcases hid i h with h|h
  ·exact .inr (.inr h)
  ·omega
def rQ(ps:List Rq)(r:Rq):Int×List Rq:=if 0<=cN (sT r.cl r.id) ps then(6,ps)else if 20<=ps.length then(2,ps)else if r.q<1\/r.q>8 then(7,ps)else(0,ps++ [r])
def rT(ps:List Rq)(cl id:Int):Int×List Rq:=if cN (sT cl id) ps<0 then(5,ps)else(0,ps.eraseIdx (cN (sT cl id) ps).toNat)
theorem TF{bA n sr:Nat}{S:fX}{tl1 tl2:bE}{pv:PV}{loc:QK->Nat}{st:Memo.St}{G:eL}{pid:List Nat}{H:aH}(hS:jR bA n sr S tl1 tl2 pv loc st G pid H)(rq:Rq)(hl:S.ps.length<=20):aR Tryz.prog 29 [.optr sr 0,rq.enc] H (λr H'=>∃pv' pid',r=aE (rQ S.ps rq).1/\jR bA n sr ⟨S.ms,S.vs,(rQ S.ps rq).2,S.rev⟩ tl1 tl2 pv' loc st G pid' H'/\dE (bW sr G pid) (bW sr G pid') H H'):=by
 have hrow:=hS.row;simp only[bV,aE]at hrow;have hrowL:=bU hrow;obtain⟨hpc0,hpc,hpj⟩:=hS.p.one;have hS1:=hS.app [.row [.int .i64 rq.cl, .int .i64 rq.id, .int .i64 rq.q, .int .i64 rq.arg, .str rq.name]];have hb1:(H++ [AObj.row [.int .i64 rq.cl, .int .i64 rq.id, .int .i64 rq.q, .int .i64 rq.arg, .str rq.name]])[H.length]? =some (.row [.int .i64 rq.cl, .int .i64 rq.id, .int .i64 rq.q, .int .i64 rq.arg, .str rq.name]):=zz
 have hHp:H.length∉pid:=λh=>by have:=hS.p.lt _ h;omega
 have hle:decide ((S.ps.length:Int)>=20)=decide (20<=S.ps.length):=by rw[decide_eq_decide];omega
 have hf1:dE (bW sr G pid) (bW sr G pid) H (H++ [AObj.row [.int .i64 rq.cl, .int .i64 rq.id, .int .i64 rq.q, .int .i64 rq.arg, .str rq.name]]):=dE.app _ _ _ hS.lt;have em:maxLen=9223372036854775807:=z7
 unfold rQ;refine aF (N:=39) Tryz.func29 rfl rfl zz λhb'=> ?_;refine aV (aG jH qM qR hrow hrowL hb1 (aS hpj hpc)) ?_
 repeat refine wS ?_
 refine bJ ?_;refine eA 5 (aG y3 jH qM qR hrow hrowL (bR hb1 hpj hpc)) ?_;refine qT (aG qM qR hrow hrowL hb1 hpj hpc) aEr (RO hS1 rq.cl rq.id z8) ?_;refine bH (aG y3 qM qR hrow hrowL hb1 (aS hpj hpc)) ?_;refine gG (aG qM qR hrow hrowL hb1 hpj hpc) (λbt5=> ?_) (λbt5=> ?_)
 ·
  rw[if_pos (of_decide_eq_true bt5)];refine aV (aG qM qR hrow hrowL hb1 hpj hpc) ?_
  repeat refine wS ?_
  refine wT ⟨.inr rfl,_,rfl, ?_⟩;exact⟨_,_,rfl,hS1,hf1⟩
 ·
  rw[if_neg (of_decide_eq_false bt5)];refine eA 4 (aG jH qU uS qM qR hrow (bD hrowL hb1 hpj hpc)) ?_;refine LZ (bP (cF qM qR hrow hrowL hpj hpc)) rfl z7 (n:=S.ps.length) (by simp only[kC,seval,aE,qM,qR,hrow,hrowL,hpj,hpc]<;>first|done|exact hS.p.len) (by rw[kD];rfl) ?_;refine bH (aG y3 qM qR hrow hrowL hb1 (aS hpj hpc)) ?_;refine gG (aG qM qR hrow hrowL hb1 hpj hpc) (λbt13=> ?_) (λbt13=> ?_)
  ·
   rw[if_pos (by simpa[hle]using bt13)];refine gQ [] (aG qM qR hrow hrowL hb1 hpj hpc) ?_;refine aV (aG qM qR hrow hrowL hb1 hpj hpc) ?_
   repeat refine wS ?_
   refine wT ⟨.inr rfl,_,rfl, ?_⟩;exact⟨_,_,rfl,hS1,hf1⟩
  ·
   rw[if_neg (by simpa[hle]using bt13)];refine gQ [0,3] (aG qM qR hrow hrowL hb1 hpj hpc) ?_;refine tJ (aG y3 jH qM qR hrow hrowL (bR hb1 hpj hpc)) ?_;refine gG (aG qM qR hrow hrowL hb1 hpj hpc) (λbt20=> ?_) (λbt20=> ?_)
   ·
    rw[if_pos (by simpa using bt20)];refine aV (aG qM qR hrow hrowL hb1 hpj hpc) ?_
    repeat refine wS ?_
    refine wT ⟨.inr rfl,_,rfl, ?_⟩;exact⟨_,_,rfl,hS1,hf1⟩
   ·
    rw[if_neg (by simpa using bt20)]
    repeat refine wS ?_
    refine wK ?_
    repeat refine wS ?_
    refine lM (D:=PV×List Nat) 11 (by kernel_rfl) rfl [0,0,2,6,14,0,32,126,255,511,1023] (by kernel_rfl) [(11,0),(12,3),(0,29),(1,30),(2,31),(3,32),(4,33),(5,34),(6,35),(7,36),(8,37),(9,38)] (λd=> [.optr sr 0, .optr H.length 0, .optr sr 0, .optr sr 0, .optr sr 0, .optr sr 2,pv,rq.enc, .slice [rq.enc] .full,d.1, .optr sr 0, .optr sr 2]) (λd m HX=>((m 7=false->vK Rq.enc 5 HX pv S.ps pid)/\(m 7=true->vK Rq.enc 5 HX d.1 (S.ps++ [rq]) d.2/\∀i∈d.2,i∈pid\/H.length<=i)/\(m 10=false->HX[sr]? =some (.row [.slice (S.ms.map Md.enc) tl1, .slice (S.vs.map aE) tl2,pv,aE S.rev, .optr (n+4) 0]))/\(m 10=true->HX[sr]? =some (.row [.slice (S.ms.map Md.enc) tl1, .slice (S.vs.map aE) tl2,d.1,aE S.rev, .optr (n+4) 0]))/\H.length+1<=HX.length/\(HX[H.length]? =some (.row [.int .i64 rq.cl, .int .i64 rq.id, .int .i64 rq.q, .int .i64 rq.arg, .str rq.name]))/\∀j,j<H.length->j∉pid->j≠sr->HX[j]? =H[j]?)) (.junk,[]) ⟨.inr rfl, .inr rfl, .inl z7, .inl z7, .inl z7, .inl z7, .inl z7, .inl z7, .inl z7, .inl z7, .inl z7, .inl z7,trivial⟩ (⟨λ_=>hS.p.app _,λh=>(Bool.noConfusion h),λ_=>hrowL _,λh=>(Bool.noConfusion h),zz,hb1,λj hj _ _=>aM0 hj⟩) ⟨?_, ?_, ?_, ?_, ?_, ?_, ?_, ?_, ?_, ?_, ?_,trivial⟩ ?_
    ·
     intro m d HX hm hp hno hge hg;have n10:m 10=false:=hno 10 rfl;have hrX:=hg.2.2.1 n10;have hbX:=hg.2.2.2.2.2.1;exact bH (aG qM qR (hge 11 z7) hrX hbX hpj hpc) ⟨d,hg,cU 0 29⟩
    ·
     intro m d HX hm hp hno hge hg;have n10:m 10=false:=hno 10 rfl;have hrX:=hg.2.2.1 n10;have hbX:=hg.2.2.2.2.2.1;exact bH (aG qM qR (hge 11 z7) hrX hbX hpj hpc) ⟨d,hg,cU 1 30⟩
    ·
     intro m d HX hm hp hno hge hg;have n10:m 10=false:=hno 10 rfl;have hrX:=hg.2.2.1 n10;have hbX:=hg.2.2.2.2.2.1;exact bH (aG qM qR (hp 1 rfl) hrX hbX hpj hpc) ⟨d,hg,cU 2 31⟩
    ·
     intro m d HX hm hp hno hge hg;have n10:m 10=false:=hno 10 rfl;have hrX:=hg.2.2.1 n10;have hbX:=hg.2.2.2.2.2.1;exact bH (aG uS qM qR (hp 2 rfl) hrX hbX (aS hpj hpc)) ⟨d,hg,cU 3 32⟩
    ·
     intro m d HX hm hp hno hge hg;have n10:m 10=false:=hno 10 rfl;have hrX:=hg.2.2.1 n10;have hbX:=hg.2.2.2.2.2.1;exact bH (aG jH qU qM qR (hp 3 rfl) hrX (bR hbX hpj hpc)) ⟨d,hg,cU 4 33⟩
    ·
     intro m d HX hm hp hno hge hg;have n10:m 10=false:=hno 10 rfl;have hrX:=hg.2.2.1 n10;have hbX:=hg.2.2.2.2.2.1;exact bH (aG jH qM qR (hge 12 z7) hrX hbX (aS hpj hpc)) ⟨d,hg,cU 5 34⟩
    ·
     intro m d HX hm hp hno hge hg;have n10:m 10=false:=hno 10 rfl;have hrX:=hg.2.2.1 n10;have hbX:=hg.2.2.2.2.2.1;exact bH (aG jH qU qM qR (hp 5 rfl) hrX (bR hbX hpj hpc)) ⟨d,hg,cU 6 35⟩
    ·
     intro m d HX hm hp hno hge hg;have n10:m 10=false:=hno 10 rfl;have hrX:=hg.2.2.1 n10;have hbX:=hg.2.2.2.2.2.1;have m4:m 4=true:=hp 4 rfl;have m6:m 6=true:=hp 6 rfl;have k7:=hg.1 hm;refine UI (enc:=Rq.enc) (sz:=5) Rq.enc_len AR (cv:=pv) (xs:=S.ps) (a:=rq) (cid:=pid) (bP (aG qM qR m4 m6 hrX hbX (aS hpj hpc))) rfl z7 z7 (bK (aG qM qR m4 m6 hrX hbX (aS hpj hpc))) (bK (aG qM qR m4 m6 hrX hbX (aS hpj hpc))) k7 kD rfl (by show(_+1)*48<=_;omega) z8 (by rw[kD];rfl) CT rfl ?_;intro cv2 cid2 H2 k8 k9 k10 k11;refine oN ⟨(cv2,cid2),⟨λh=>Bool.noConfusion h,λ_=>⟨k8,λi hi=>(k9 i hi).imp id λh=>by have:=hg.2.2.2.2.1;omega⟩,λ_=>(k11 sr (lG hrX) hS.ns.2).trans hrX,λh=>absurd (h.symm.trans n10) z7,aMr hg.2.2.2.2.1 k10,(k11 H.length (lG hbX) hHp).trans hbX,λj hj h1 h2=>(k11 j (by have:=hg.2.2.2.2.1;omega) h1).trans (hg.2.2.2.2.2.2 j hj h1 h2)⟩,zV (i:=7) (d:=some 36) (r:=_) ?_⟩;exact aI ⟨trivial,λ_=>rfl⟩ (aI ⟨trivial,λ_=>rfl⟩ (aI ⟨trivial,λ_=>rfl⟩ (aI ⟨trivial,λ_=>rfl⟩ (aI ⟨trivial,λ_=>rfl⟩ (aI ⟨trivial,λ_=>rfl⟩ (aI ⟨trivial,λ_=>rfl⟩ (aI ⟨trivial,λ_=>rfl⟩ (aI ⟨trivial,λ_=>rfl⟩ (aI ⟨rfl,rfl⟩ (aI ⟨trivial,λ_=>rfl⟩ (aI ⟨trivial,λ_=>rfl⟩ (trivial))))))))))))
    ·
     intro m d HX hm hp hno hge hg;have n10:m 10=false:=hno 10 rfl;have hrX:=hg.2.2.1 n10;have hbX:=hg.2.2.2.2.2.1;exact bH (aG qM qR (hp 0 rfl) hrX hbX hpj hpc) ⟨d,hg,cU 8 37⟩
    ·
     intro m d HX hm hp hno hge hg;have n10:m 10=false:=hno 10 rfl;have hrX:=hg.2.2.1 n10;have hbX:=hg.2.2.2.2.2.1;exact bH (aG uS qM qR (hp 8 rfl) hrX hbX (aS hpj hpc)) ⟨d,hg,cU 9 38⟩
    ·
     intro m d HX hm hp hno hge hg;have n10:m 10=false:=hm;have hrX:=hg.2.2.1 n10;have hbX:=hg.2.2.2.2.2.1;have m7:m 7=true:=hp 7 rfl;have m7:m 7=true:=hp 7 rfl;obtain⟨k8,k9⟩:=hg.2.1 m7;obtain⟨k1c,k2c,k3c⟩:=k8.one;have nrX:(sr=HX.length)=False:=by have:=lG hrX;simp;omega
     have nsd:∀i∈d.2,sr≠i:=λi hi e=>by
      rcases k9 i hi with h|h
      ·exact hS.ns.2 (e▸h)
      ·have:=lG hS.row;omega
     refine bH (aG jH qU qM qR m7 (hp 9 rfl) (aG hrX hbX hpj hpc nrX k1c (aS k2c k3c))) ?_;refine⟨d,⟨λh=>absurd (h.symm.trans m7) z7,λ_=>⟨k8.fr λi hi=>aM5 (nsd i hi),k9⟩,λh=>Bool.noConfusion h,λ_=>aM4 (lG hrX),by rw[lS];exact hg.2.2.2.2.1,by rw[aM5 (by have:=lG hS.row;omega)];exact hbX,λj hj h1 h2=>by rw[aM5 (Ne.symm h2)];exact hg.2.2.2.2.2.2 j hj h1 h2⟩,aD5 (i:=10) ?_⟩;exact aI ⟨trivial,λ_=>rfl⟩ (aI ⟨trivial,λ_=>rfl⟩ (aI ⟨trivial,λ_=>rfl⟩ (aI ⟨trivial,λ_=>rfl⟩ (aI ⟨trivial,λ_=>rfl⟩ (aI ⟨trivial,λ_=>rfl⟩ (aI ⟨trivial,λ_=>rfl⟩ (aI ⟨trivial,λ_=>rfl⟩ (aI ⟨trivial,λ_=>rfl⟩ (aI ⟨trivial,λ_=>rfl⟩ (aI ⟨trivial,λ_=>rfl⟩ (aI ⟨trivial,λ_=>rfl⟩ (trivial))))))))))))
    intro d HF hg;obtain⟨k8,k9⟩:=hg.2.1 rfl;have hrF:=hg.2.2.2.1 rfl;obtain⟨_,_,_,_,hlF,_,hsF⟩:=hg;obtain⟨hSN,hFN⟩:=hS.setPs z8 k8 hrF hsF k9;refine eG (F:=gM [(0, .optr sr 0)]) (cO ⟨rfl,trivial⟩) ?_;refine gQ [] (aG qM qR hrow hrowL hb1 hpj hpc) ?_;refine aV (aG qM qR hrow hrowL hb1 hpj hpc) ?_
    repeat refine wS ?_
    refine wT ⟨.inr rfl,_,rfl, ?_⟩;exact⟨_,_,rfl,hSN,hFN⟩
theorem YE{bA n sr:Nat}{S:fX}{tl1 tl2:bE}{pv:PV}{loc:QK->Nat}{st:Memo.St}{G:eL}{pid:List Nat}{H:aH}(hS:jR bA n sr S tl1 tl2 pv loc st G pid H)(client id:Int)(hl:S.ps.length<=20):aR Tryz.prog 30 [.optr sr 0,aE client,aE id] H (λr H'=>∃pv' pid' rs,r= .tup [.slice (rs.map Rs.enc) .none,aE (rT S.ps client id).1]/\rs=(if(rT S.ps client id).1=0 then [⟨client,id,12,S.rev,[],[]⟩]else [])/\jR bA n sr ⟨S.ms,S.vs,(rT S.ps client id).2,S.rev⟩ tl1 tl2 pv' loc st G pid' H'/\dE (bW sr G pid) (bW sr G pid') H H'):=by
 have hrow:=hS.row;simp only[bV,aE]at hrow;have hrowL:=bU hrow;obtain⟨hpc0,hpc,hpj⟩:=hS.p.one;have em:maxLen=9223372036854775807:=z7
 unfold rT;refine aF (N:=34) Tryz.func30 rfl rfl zz λhb'=> ?_;refine aV (bD qM qR hrow hrowL) ?_;refine eA 3 (bD qM qR hrow hrowL) ?_;refine qT (bD qM qR hrow hrowL) aEr (RO hS client id z8) ?_;refine bH (bD qM qR hrow hrowL) ?_;refine aV (bL y3 qM qR hrow hrowL) ?_;refine gG (bD qM qR hrow hrowL) (λbt14=> ?_) (λbt14=> ?_)
 ·
  rw[if_pos (of_decide_eq_true bt14)];refine aV (bD qM qR hrow hrowL) ?_
  repeat refine wS ?_
  refine wT ⟨.inr rfl,_,(bI (.tmp 6) (.tmp 7) rfl (aM z7) (aM z7)), ?_⟩;exact⟨_,_,[],rfl,zz,hS, .refl _ _⟩
 ·
  have hpos:=of_decide_eq_false bt14;rw[if_neg hpos];obtain⟨i,hi,hii⟩:∃i,i<S.ps.length/\cN (sT client id) S.ps=(i:Int):=by
   rcases kY (sT client id) S.ps with⟨e,_⟩| ⟨i,h,e,e2,_⟩
   ·rw[e]at hpos;exact absurd z7 hpos
   ·exact⟨i,h,e⟩
  have gw:IntKind.i64.wrap ((i:Int)+1)=((i+1:Nat):Int):=by rw[cL z8 z8];omega
  rcases hS.p.cases2 with⟨e,_,_⟩| ⟨ic,c,pre,rest,hpv,hpd,hH,hcc,hm,hm2⟩
  ·rw[e]at hi;cases hi
  have hicH:=lG hH;have hics:ic≠sr:=λe=>hS.ns.2 (by rw[hpd,e];simp);have nsr:(sr=H.length)=False:=by have:=lG hrow;simp;omega
  rw[hpv]at hrow hrowL
  repeat refine wS ?_
  refine wK ?_;refine eA 8 (aG y3 jH qU uS qM qR (bD hrow hrowL hii gw)) ?_;refine oW (cF qM qR hrow hrowL hii gw) aI5 (aKd S.ps i hi hH hm hm2) ?_;rintro _ H1 ⟨rfl,hH1⟩;have hrow1:H1[sr]? =_:=(by rw[hH1,aM5 hics]:H1[sr]? =H[sr]?).trans hrow;have hl1:H1.length=H.length:=by rw[hH1,lS]
  have nsr:(sr=H1.length)=False:=by have:=lG hrow1;simp;omega
  have hic1:H1[ic]? =_:=(by rw[hH1]:H1[ic]? =(H.set ic _)[ic]?).trans (aM4 hicH);have hgs:∀j,j<H.length->j∉pid->j≠sr->H1[j]? =H[j]? :=λj hj h1 h2=>by rw[hH1,aM5 (λe=>h1 (by rw[hpd,e];simp))]
  clear hH1;refine bH (aG jH qU uS qM qR hrow (bL hrowL hrow1 nsr hii gw)) ?_;refine gQ [0,1,2] (cF qM qR hrow hrowL hrow1 nsr) ?_
  repeat refine wS ?_
  refine dI (λHZ=>HZ=H1.set sr (bV ⟨S.ms,S.vs,S.ps.eraseIdx i,S.rev⟩ tl1 tl2 (.msl ic pre.length (S.ps.length-1) c) n)) (by simp[bV,aE]) ?_;rintro HZ hHZ;have ht5:HZ[sr]? =some (.row [.slice (S.ms.map Md.enc) tl1, .slice (S.vs.map aE) tl2, .msl ic pre.length (S.ps.length-1) c, .int .i64 S.rev, .optr (n+4) 0]):=by rw[hHZ];exact aM4 (lG hrow1)
  obtain⟨hSN,hFN⟩:=hS.setPs (H2:=HZ) (ps':=S.ps.eraseIdx i) (pv':=.msl ic pre.length (S.ps.length-1) c) (pid':= [ic]) (by rw[hHZ,lS,hl1];exact aMq _) (vK.of rfl (lK hi) (by rw[hHZ,aM5 (Ne.symm hics)];exact hic1) (by simp only[aNo,aM7,aOa];omega) z8 hm2) ht5 (λj hj h1 h2=>by rw[hHZ,aM5 (Ne.symm h2)];exact hgs j hj h1 h2) (λj hj=>by rw[hpd];exact .inl hj);refine eE (fI (aG y3 y35 qO uS qM qR (bL hrow hrowL hrow1 nsr ht5))) z7 ?_
  repeat refine wS ?_
  refine wT ⟨.inr rfl,_,(bI (.tmp 6) (.tmp 7) rfl (aM z7) (aM z7)), ?_⟩;exact⟨_,_,[⟨client,id,12,S.rev,[],[]⟩],rfl,zz,by rw[hii,tN];exact hSN,hFN⟩
end Go.Abs
namespace Go.Abs
open Go.Proofs Go.Memo
theorem WZ(N c s:Int):decide (IntKind.i64.wrap (c-s)>=N)=decide (N<=wrap64 (c-s)):=by
 have:IntKind.i64.wrap (c-s)=wrap64 (c-s):=by
  unfold IntKind.wrap wrap64;simp only[IntKind.signed,IntKind.bits,Bool.true_and,Nat.reducePow]
  by_cases h:(9223372036854775808:Int)<=(c-s)%18446744073709551616
  ·simp[h];omega
  ·simp[h];omega
 rw[this]
theorem aE9{H:aH}{bs bst bn sr d:Nat}{start N c:Int}{v0 v1 v2 v3 u0 u1 u2 u3 u4 u6:PV}(hbs:H[bs]? =some (.row [.optr sr 0]))(hr:H[sr]? =some (.row [v0,v1,v2,v3, .optr d 0]))(hst:H[bst]? =some (.row [aE start]))(hbn:H[bn]? =some (.row [aE N]))(hd:H[d]? =some (.row [u0,u1,u2,u3,u4,aE c,u6])):aR Tryz.prog 64 [.optr bs 0, .optr bst 0, .optr bn 0] H λr H'=>r= .bool (decide (N<=wrap64 (c-start)))/\H'=H:=by
 have hd0:=hd;simp only[aE]at hst hbn hd;have q1:=bU hbs;have q2:=bU hr;have q3:=bU hst;have q4:=bU hbn;have gq:=WZ N c start;refine eW (N:=13) Tryz.func64 rfl rfl zz (.bool _) λhb'=> ?_
 repeat refine wS ?_
 refine eE (by simp only[kA,seval,aE,hbs,hr,hst,hbn,q1,q2,q3,q4,gq]<;>with_reducible rfl) z7 ?_
 repeat refine wS ?_
 refine eJ (by kernel_rfl) ?_;refine IB 4 (by simp only[jP,jO,jN,seval,y24,qV,uS,aE,hbs,hr,hst,hbn,q1,q2,q3,q4,gq]<;>with_reducible rfl) z7 ?_;refine RX (by simp only[kE,seval,aE,hbs,hr,hst,hbn,q1,q2,q3,q4,gq]<;>with_reducible rfl) (by simp only[kE,seval,aE,hbs,hr,hst,hbn,q1,q2,q3,q4,gq]<;>with_reducible rfl) (by simp only[kE,seval,aE,hbs,hr,hst,hbn,q1,q2,q3,q4,gq]) z7 aEi (λhc=>tI (by assumption)) ?_;refine JP (by simp only[jP,jO,jN,seval,y3,aE,hbs,hr,hst,hbn,q1,q2,q3,q4,gq]<;>with_reducible rfl) z7 (by repeat (first|exact fT.base _|with_reducible apply fT.keep|apply fT.drop)) ?_
 repeat refine wS ?_
 refine wT ⟨.inr rfl,_,_,rfl, ?_,(by first|exact(aN9 _).symm|rfl)⟩;rfl
def FXs(sr bs bst bn:Nat):eL:=λid=>id=bs\/id=sr\/id=bst\/id=bn
def IXs(sr bs bst bn:Nat)(row:AObj)(start N:Int)(H:aH):Prop:=H[bs]? =some (.row [.optr sr 0])/\H[sr]? =some row/\H[bst]? =some (.row [aE start])/\H[bn]? =some (.row [aE N])
def EI(start N:Int):Int->Bool:=λm=>decide (N<=wrap64 (m-start))
def cxR(bA n sr bs bst bn:Nat)(row:AObj)(start N:Int):Cx:= {ix:= {(RS bA n).ix with stp:=.fn (.func 64) [] [.optr bs 0, .optr bst 0, .optr bn 0]},cp:=sH,stpf:=EI start N,env:=yI bA,FX:=FXs sr bs bst bn,I:=λ_ H=>IXs sr bs bst bn row start N H}
theorem IXs.fr{sr bs bst bn:Nat}{row:AObj}{start N:Int}{H H':aH}(h:IXs sr bs bst bn row start N H)(hs:∀id,FXs sr bs bst bn id->H'[id]? =H[id]?):IXs sr bs bst bn row start N H':=
 ⟨(hs bs (.inl rfl)).trans h.1,(hs sr (.inr (.inl rfl))).trans h.2.1,(hs bst (.inr (.inr (.inl rfl)))).trans h.2.2.1,(hs bn (.inr (.inr (.inr rfl)))).trans h.2.2.2⟩
theorem aFy(bA n sr bs bst bn:Nat)(S:fX)(tl1 tl2:bE)(pv:PV)(start N:Int):oA (cxR bA n sr bs bst bn (bV S tl1 tl2 pv n) start N):=
 ⟨XE bA,λb H H' h hs=>h.fr hs,λb H h id hid=>by
  rcases hid with rfl|rfl|rfl|rfl
  ·exact lG h.1
  ·exact lG h.2.1
  ·exact lG h.2.2.1
  ·exact lG h.2.2.2, .inr ⟨64,_,rfl,aJ3,λloc act st F H hD hI hF=>by
  obtain⟨clock,hd⟩:=hD.db;refine(aE9 hI.1 hI.2.1 hI.2.2.1 hI.2.2.2 hd).mono ?_;rintro r H' ⟨rfl,rfl⟩;exact⟨rfl,hI, .refl _ _⟩⟩⟩
section
variable{bA n sr:Nat}{S:fX}{tl1 tl2:bE}{pv:PV}{loc:QK->Nat}{st:Memo.St}{G:eL}{pid:List Nat}{H:aH}
structure ED(sr:Nat)(G:eL)(pid:List Nat)(bs bst bn:Nat)(start N:Int)(H:aH):Prop where
 b1:H[bs]? =some (.row [.optr sr 0])
 b2:H[bst]? =some (.row [aE start])
 b3:H[bn]? =some (.row [aE N])
 o1:¬bW sr G pid bs
 o2:¬bW sr G pid bst
 o3:¬bW sr G pid bn
 z:bs≠0/\bst≠0/\bn≠0
theorem aLf(hS:jR bA n sr S tl1 tl2 pv loc st G pid H){bs bst bn:Nat}{start N:Int}(hB:ED sr G pid bs bst bn start N H)(fu:Nat)(k:QK)(hk:k.1≠0)(o:Option gU)(st':Memo.St)(hm:Memo.upd (EI start N) sH fu [] k st=some (o,st'))(hl:∀r,o=some r->r.val.nums.length<=rD):
  aR Tryz.prog 83 [.optr (n+4) 0,dQ k, .fn (.func 64) [] [.optr bs 0, .optr bst 0, .optr bn 0]] H (λr H'=>∃loc' G',r= .tup [aFg o,aE (IF o)]/\jR bA n sr S tl1 tl2 pv loc' st' G' pid H'/\ED sr G' pid bs bst bn start N H'/\dE (bW sr G pid) (bW sr G' pid) H H'):=by
 have hX:=aFy bA n sr bs bst bn S tl1 tl2 pv start N;have hI:IXs sr bs bst bn (bV S tl1 tl2 pv n) start N H:=⟨hB.b1,hS.row,hB.b2,hB.b3⟩;obtain⟨F,h1,h2,h3,hG,h4⟩:=hS.w;have hFG:∀id,F id->G id:=λid h=>by rw[hG];exact .inl h
 have hnX:∀id,G id->¬FXs sr bs bst bn id:=λid hg hx=>by
  rcases hx with rfl|rfl|rfl|rfl
  ·exact hB.o1 (.inl hg)
  ·exact hS.ns.1 hg
  ·exact hB.o2 (.inl hg)
  ·exact hB.o3 (.inl hg)
 have hW:WR (cxR bA n sr bs bst bn (bV S tl1 tl2 pv n) start N).off loc [] st false (λid=>F id\/FXs sr bs bst bn id\/∃e∈yI bA,e.1=id) H:=
  ⟨F,h1,hI,λid hf=>hnX id (hFG id hf),rfl,λe he=>⟨(h4 e he).1,(h4 e he).2.1,hnX e.1 (by rw[hG];exact .inr (.inr ⟨e,he,rfl⟩))⟩⟩
 have hGi:∀id,(F id\/FXs sr bs bst bn id\/∃e∈yI bA,e.1=id)->G id\/FXs sr bs bst bn id:=λid h=>by
  rcases h with h|h|h
  ·exact .inl (hFG id h)
  ·exact .inr h
  ·exact .inl (by rw[hG];exact .inr (.inr h))
 refine(PQ hX fu k hk loc st _ H o st' hm hl hW).mono ?_;rintro r H' ⟨loc',G1,rfl,w3,f3⟩;obtain⟨F1,k1,k2,k3,hG1,k4⟩:=w3;have hw:WR (RS bA n) loc' [] st' false (λid=>F1 id\/False\/∃e∈yI bA,e.1=id) H':=⟨F1,k1,trivial,λ_ _ h=>h,rfl,λe he=>⟨(k4 e he).1,(k4 e he).2.1,λh=>h⟩⟩;have hg1:∀id,(F1 id\/False\/∃e∈yI bA,e.1=id)->G1 id/\¬FXs sr bs bst bn id:=λid h=>by
  rw[hG1];rcases h with h|h| ⟨e,he,rfl⟩
  ·exact⟨.inl h,k3 id h⟩
  ·exact h.elim
  ·exact⟨.inr (.inr ⟨e,he,rfl⟩),(k4 e he).2.2⟩
 have fG:dE G (λid=>F1 id\/False\/∃e∈yI bA,e.1=id) H H':=⟨f3.len,λid h5 h6=>by
  by_cases hx:FXs sr bs bst bn id
  ·rcases hx with rfl|rfl|rfl|rfl
   ·rw[hB.b1];exact k2.1
   ·rw[hS.row];exact k2.2.1
   ·rw[hB.b2];exact k2.2.2.1
   ·rw[hB.b3];exact k2.2.2.2
  ·exact f3.same id h5 λh=>(hGi id h).elim h6 hx,λid h5 h6=>by
  obtain⟨q1,q2⟩:=hg1 id h5;exact(hGi id (f3.ids id q1 h6)).resolve_right q2⟩
 obtain⟨hSN,hFN⟩:=hS.call hw fG;have keep:∀b,FXs sr bs bst bn b->b≠sr->¬bW sr G pid b->¬bW sr (λid=>F1 id\/False\/∃e∈yI bA,e.1=id) pid b:=λb hb hne hn h=>by
  rcases h with h|h|h
  ·exact(hg1 b h).2 hb
  ·exact hne h
  ·exact hn (.inr (.inr h))
 exact⟨loc',_,rfl,hSN,⟨k2.1,k2.2.2.1,k2.2.2.2,keep bs (.inl rfl) (λe=>hB.o1 (.inr (.inl e))) hB.o1,keep bst (.inr (.inr (.inl rfl))) (λe=>hB.o2 (.inr (.inl e))) hB.o2,keep bn (.inr (.inr (.inr rfl))) (λe=>hB.o3 (.inr (.inl e))) hB.o3,hB.z⟩,hFN⟩
end
end Go.Abs
