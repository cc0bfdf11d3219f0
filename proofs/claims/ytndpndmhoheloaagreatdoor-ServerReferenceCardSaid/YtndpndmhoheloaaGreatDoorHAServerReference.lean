/- Part 1 of a proof of the law ServerReference: Go data as trees, the walks of the functions that the law reaches, the plain laws. -/
import Derived.JoinedOf
import Derived.KernelRfl
import Derived.Test.YtndpndmhoheloaaGreatDoorRows
open Bool renaming and_eq_true->aMj,not_eq_true'->aMk
open List renaming all_cons->aMi,cons_append->aMl
set_option linter.unusedVariables false
set_option linter.unusedSimpArgs false
namespace Go.Abs
theorem aD8(r:List (List Char)):stripLifts liftWords ("cut".toList::r)=([], "cut".toList::r):=by
  simp only[liftWords]
  repeat (rw[stripLifts,if_neg (by decide)])
  rfl
theorem LK{P:Program}{r:List (List Char)}(h:behindMainWord (wordsSigns P.initOrder.toList)= "cut".toList::r)(h1:P.laysLater=false)(h2:P.bearsReflect=false)(h3:P.doorFits []=true):P.mayEnter=true:=by
  unfold Program.mayEnter;rw[h];simp only[aD8,h1,h2,h3];rfl
theorem IL{P:Program}{r:List (List Char)}(h:behindMainWord (wordsSigns P.initOrder.toList)= "cut".toList::r):P.headLifts= []:=by
  unfold Program.headLifts;rw[h,aD8];rfl
theorem EM{P:Program}{r:List (List Char)}(h:behindMainWord (wordsSigns P.initOrder.toList)= "cut".toList::r):P.liftsFinal=false:=by
  unfold Program.liftsFinal;rw[IL h,h];rfl
theorem aDa{P:Program}{r:List (List Char)}(h:behindMainWord (wordsSigns P.initOrder.toList)= "cut".toList::r):P.make=some .cut:=by
  unfold Program.make;rw[h];rfl
def sg(l:List Nat):List Char:=l.map Char.ofNat
theorem OS(c:Char)(r:List Char)(h:(c==Char.ofNat 32)=false):wordsSigns (c::r)=match wordsSigns r with|w::ws=>(c::w)::ws| []=> [[c]]:=by
  rw[wordsSigns]
  · rfl
  · intro e
    subst e;simp at h
theorem sG:∀(w r:List Char),w.all (λc=> !(c==Char.ofNat 32))=true->wordsSigns (w++Char.ofNat 32::r)=w::wordsSigns r
  | [],r,_=>by rfl
  |c::w,r,h=>by
    simp only[aMi,aMj,aMk]at h;rw[aMl,OS c _ h.1,sG w r h.2]
theorem TQ{P:Program}{a b c r:List Char}(hio:P.initOrder=String.ofList (a++Char.ofNat 32::(b++Char.ofNat 32::(c++Char.ofNat 32::r))))(ha:a.all (λc=> !(c==Char.ofNat 32))=true)(hb:b.all (λc=> !(c==Char.ofNat 32))=true)(hc:c.all (λc=> !(c==Char.ofNat 32))=true)(h:((a== "harness".toList||a== "ownmain".toList)&&isSumSigns b)=true)(hc2:c= "cut".toList):behindMainWord (wordsSigns P.initOrder.toList)= "cut".toList::wordsSigns r:=by
  rw[hio,String.toList_ofList,sG _ _ ha,sG _ _ hb,sG _ _ hc];simp only[behindMainWord];rw[if_pos h,hc2]
end Go.Abs
set_option maxRecDepth 100000
namespace Go.Proofs.YtndpndmhoheloaaGreatDoor.headFacts
open Go.Abs
def aDo:List Char:=sg [97,116,32,103,108,111,115,115,97,116,111,114,47,103,108,111,115,115,97,116,111,114,108,97,119,49,46,83,101,114,118,101,114,82,101,102,101,114,101,110,99,101]
theorem io:Tryz.prog.initOrder=String.ofList (sg [104,97,114,110,101,115,115]++Char.ofNat 32::(sg [52,52,56,49,102,97,52,49,52,57,100,53,50,57,50,99,97,50,97,100,98,101,52,50,97,100,48,53,51,56,51,53,52,48,50,53,51,55,49,102,57,54,101,55,101,50,54,102,100,52,50,50,55,53,97,53,97,51,48,98,57,55,55,52]++Char.ofNat 32::(sg [99,117,116]++Char.ofNat 32::aDo))):=by kernel_rfl
theorem beh:behindMainWord (wordsSigns Tryz.prog.initOrder.toList)= "cut".toList::wordsSigns aDo:=TQ io (by decide) (by decide) (by decide) (by kernel_rfl) (by kernel_rfl)
theorem later:Tryz.prog.laysLater=false:=by kernel_rfl
theorem refl:Tryz.prog.bearsReflect=false:=by kernel_rfl
theorem aKr:Tryz.prog.doorFits []=true:=by kernel_rfl
theorem mayEnter:Tryz.prog.mayEnter=true:=LK beh later refl aKr
theorem liftsFinal:Tryz.prog.liftsFinal=false:=EM beh
theorem make:Tryz.prog.make=some .cut:=aDa beh
end Go.Proofs.YtndpndmhoheloaaGreatDoor.headFacts
