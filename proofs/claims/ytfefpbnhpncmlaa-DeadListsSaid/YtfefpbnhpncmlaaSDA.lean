/- Own texts, one behind the other, each with what the claim uses of it: WLast WTab WFour WQPut WApart WArr WZeros WFoot WKept WShare WN WFootNe WAt WEqStruct WRepsOne WInv WInvWords WGuard WNEv WMore B8 CodL Shelf CodA CodB CodC CatL PtrA PtrB PtrE PtrF PtrG RefA RefD RefE PtrH Agg PtrI PtrK PtrJ PtrL RefF RefB RefC RefG PtrC RefH RefI CatS CatK CatM CatN CatO CatR CatT CatU CatW CatV CatX EntL EntA EntB EntC StmA CatY EntD EntE EntF EntG StmB StmC CrcL CrcA CrcB CrcC StmD StmE StmL StmF StmG StmH StmI StmJ StmK StmM StmN StmO StmP DeaL DeaA DeaB DeaN DeaC DeaR DeaS DeaT DeaU. -/
import Derived.Test.YtfefpbnhpncmlaaChecked
import GoSem.Claim
import GoSem.ClaimJoined
import GoSem.ClaimMapViews
import Derived.JoinedTies
import Derived.KernelRfl
import Derived.Test.YtfefpbnhpncmlaaProg
import Derived.Below
import Derived.Deep.Draws
import Derived.Deep.AppendLies
import Derived.Maps.AppendAt
import Derived.OwnWalk
import Derived.Laws.BytesArg
import Derived.Laws.MakeOwn
import Derived.Laws.OwnMore
import Derived.Deep.OwnRows
import Derived.Tactics
import Derived.Lib.ConvBytes
import Derived.Laws.Slices
import Derived.WalkKit
import Derived.RowKit3
import Derived.Deep.LoopGhost
import Derived.Deep.QuietTactic
import Derived.BigQuiet
import Derived.WideLaws
import Derived.Deep.DeepCutAuto
import Derived.Deep.CutBlock
import Derived.Deep.RegionHeld3
import Derived.Laws.Rows
import Derived.Lib.AppendStr
import Derived.ArgAppend
import Derived.Laws.IdiomCopy
import Derived.OrdersHeld
import Derived.Laws.BitsLemmas
import Derived.RowKit
import Derived.Laws.StructEq
import Derived.Deep.Slices
import Derived.Shelf.Strconv.Itoa0
import Derived.Outline
import Derived.Lib.EndianBits
import Derived.Deep.WholeRow
import Derived.WalkSpells
import Derived.WalkSmall
import Derived.Laws.Tables
import Derived.Deep.MidRow
import Derived.Laws.CopyOwn
import Derived.Laws.Cover3
import Derived.LoopN
import Derived.Lib.SlBytesConst
import Derived.Lib.SmallJoins
import Derived.Lib.BytesEntry
import Derived.Laws.Externs
import Derived.Deep.Cut
import Derived.Lib.SliceRun
import Derived.OpenShut
import Derived.SizedLaws
import Derived.ChangeSlices
import Derived.ProofKit
import Derived.ShutString
import Derived.ChangeOld
import Derived.Test.YtfefpbnhpncmlaaWSized
import Derived.Test.YtfefpbnhpncmlaaWWords
namespace Go.Proofs.Ytfefpbnhpncmlaa.Agg
end Go.Proofs.Ytfefpbnhpncmlaa.Agg
namespace Go.Proofs.Ytfefpbnhpncmlaa.B8
end Go.Proofs.Ytfefpbnhpncmlaa.B8
namespace Go.Proofs.Ytfefpbnhpncmlaa.CatK
end Go.Proofs.Ytfefpbnhpncmlaa.CatK
namespace Go.Proofs.Ytfefpbnhpncmlaa.CatL
end Go.Proofs.Ytfefpbnhpncmlaa.CatL
namespace Go.Proofs.Ytfefpbnhpncmlaa.CatM
end Go.Proofs.Ytfefpbnhpncmlaa.CatM
namespace Go.Proofs.Ytfefpbnhpncmlaa.CatN
end Go.Proofs.Ytfefpbnhpncmlaa.CatN
namespace Go.Proofs.Ytfefpbnhpncmlaa.CatO
end Go.Proofs.Ytfefpbnhpncmlaa.CatO
namespace Go.Proofs.Ytfefpbnhpncmlaa.CatR
end Go.Proofs.Ytfefpbnhpncmlaa.CatR
namespace Go.Proofs.Ytfefpbnhpncmlaa.CatS
end Go.Proofs.Ytfefpbnhpncmlaa.CatS
namespace Go.Proofs.Ytfefpbnhpncmlaa.CatT
end Go.Proofs.Ytfefpbnhpncmlaa.CatT
namespace Go.Proofs.Ytfefpbnhpncmlaa.CatU
end Go.Proofs.Ytfefpbnhpncmlaa.CatU
namespace Go.Proofs.Ytfefpbnhpncmlaa.CatV
end Go.Proofs.Ytfefpbnhpncmlaa.CatV
namespace Go.Proofs.Ytfefpbnhpncmlaa.CatW
end Go.Proofs.Ytfefpbnhpncmlaa.CatW
namespace Go.Proofs.Ytfefpbnhpncmlaa.CatX
end Go.Proofs.Ytfefpbnhpncmlaa.CatX
namespace Go.Proofs.Ytfefpbnhpncmlaa.CatY
end Go.Proofs.Ytfefpbnhpncmlaa.CatY
namespace Go.Proofs.Ytfefpbnhpncmlaa.CodA
end Go.Proofs.Ytfefpbnhpncmlaa.CodA
namespace Go.Proofs.Ytfefpbnhpncmlaa.CodB
end Go.Proofs.Ytfefpbnhpncmlaa.CodB
namespace Go.Proofs.Ytfefpbnhpncmlaa.CodC
end Go.Proofs.Ytfefpbnhpncmlaa.CodC
namespace Go.Proofs.Ytfefpbnhpncmlaa.CodL
end Go.Proofs.Ytfefpbnhpncmlaa.CodL
namespace Go.Proofs.Ytfefpbnhpncmlaa.CrcA
end Go.Proofs.Ytfefpbnhpncmlaa.CrcA
namespace Go.Proofs.Ytfefpbnhpncmlaa.CrcB
end Go.Proofs.Ytfefpbnhpncmlaa.CrcB
namespace Go.Proofs.Ytfefpbnhpncmlaa.CrcC
end Go.Proofs.Ytfefpbnhpncmlaa.CrcC
namespace Go.Proofs.Ytfefpbnhpncmlaa.CrcL
end Go.Proofs.Ytfefpbnhpncmlaa.CrcL
namespace Go.Proofs.Ytfefpbnhpncmlaa.DeaA
end Go.Proofs.Ytfefpbnhpncmlaa.DeaA
namespace Go.Proofs.Ytfefpbnhpncmlaa.DeaB
end Go.Proofs.Ytfefpbnhpncmlaa.DeaB
namespace Go.Proofs.Ytfefpbnhpncmlaa.DeaC
end Go.Proofs.Ytfefpbnhpncmlaa.DeaC
namespace Go.Proofs.Ytfefpbnhpncmlaa.DeaL
end Go.Proofs.Ytfefpbnhpncmlaa.DeaL
namespace Go.Proofs.Ytfefpbnhpncmlaa.DeaN
end Go.Proofs.Ytfefpbnhpncmlaa.DeaN
namespace Go.Proofs.Ytfefpbnhpncmlaa.DeaR
end Go.Proofs.Ytfefpbnhpncmlaa.DeaR
namespace Go.Proofs.Ytfefpbnhpncmlaa.DeaS
end Go.Proofs.Ytfefpbnhpncmlaa.DeaS
namespace Go.Proofs.Ytfefpbnhpncmlaa.DeaT
end Go.Proofs.Ytfefpbnhpncmlaa.DeaT
namespace Go.Proofs.Ytfefpbnhpncmlaa.DeaU
end Go.Proofs.Ytfefpbnhpncmlaa.DeaU
namespace Go.Proofs.Ytfefpbnhpncmlaa.DeaV
end Go.Proofs.Ytfefpbnhpncmlaa.DeaV
namespace Go.Proofs.Ytfefpbnhpncmlaa.DeaW
end Go.Proofs.Ytfefpbnhpncmlaa.DeaW
namespace Go.Proofs.Ytfefpbnhpncmlaa.DeaX
end Go.Proofs.Ytfefpbnhpncmlaa.DeaX
namespace Go.Proofs.Ytfefpbnhpncmlaa.DeaY
end Go.Proofs.Ytfefpbnhpncmlaa.DeaY
namespace Go.Proofs.Ytfefpbnhpncmlaa.DebA
end Go.Proofs.Ytfefpbnhpncmlaa.DebA
namespace Go.Proofs.Ytfefpbnhpncmlaa.DebB
end Go.Proofs.Ytfefpbnhpncmlaa.DebB
namespace Go.Proofs.Ytfefpbnhpncmlaa.DebC
end Go.Proofs.Ytfefpbnhpncmlaa.DebC
namespace Go.Proofs.Ytfefpbnhpncmlaa.DebD
end Go.Proofs.Ytfefpbnhpncmlaa.DebD
namespace Go.Proofs.Ytfefpbnhpncmlaa.EntA
end Go.Proofs.Ytfefpbnhpncmlaa.EntA
namespace Go.Proofs.Ytfefpbnhpncmlaa.EntB
end Go.Proofs.Ytfefpbnhpncmlaa.EntB
namespace Go.Proofs.Ytfefpbnhpncmlaa.EntC
end Go.Proofs.Ytfefpbnhpncmlaa.EntC
namespace Go.Proofs.Ytfefpbnhpncmlaa.EntD
end Go.Proofs.Ytfefpbnhpncmlaa.EntD
namespace Go.Proofs.Ytfefpbnhpncmlaa.EntE
end Go.Proofs.Ytfefpbnhpncmlaa.EntE
namespace Go.Proofs.Ytfefpbnhpncmlaa.EntF
end Go.Proofs.Ytfefpbnhpncmlaa.EntF
namespace Go.Proofs.Ytfefpbnhpncmlaa.EntG
end Go.Proofs.Ytfefpbnhpncmlaa.EntG
namespace Go.Proofs.Ytfefpbnhpncmlaa.EntL
end Go.Proofs.Ytfefpbnhpncmlaa.EntL
namespace Go.Proofs.Ytfefpbnhpncmlaa.PBaseSigns
end Go.Proofs.Ytfefpbnhpncmlaa.PBaseSigns
namespace Go.Proofs.Ytfefpbnhpncmlaa.PtrA
end Go.Proofs.Ytfefpbnhpncmlaa.PtrA
namespace Go.Proofs.Ytfefpbnhpncmlaa.PtrB
end Go.Proofs.Ytfefpbnhpncmlaa.PtrB
namespace Go.Proofs.Ytfefpbnhpncmlaa.PtrE
end Go.Proofs.Ytfefpbnhpncmlaa.PtrE
namespace Go.Proofs.Ytfefpbnhpncmlaa.PtrF
end Go.Proofs.Ytfefpbnhpncmlaa.PtrF
namespace Go.Proofs.Ytfefpbnhpncmlaa.PtrG
end Go.Proofs.Ytfefpbnhpncmlaa.PtrG
namespace Go.Proofs.Ytfefpbnhpncmlaa.PtrH
end Go.Proofs.Ytfefpbnhpncmlaa.PtrH
namespace Go.Proofs.Ytfefpbnhpncmlaa.PtrI
end Go.Proofs.Ytfefpbnhpncmlaa.PtrI
namespace Go.Proofs.Ytfefpbnhpncmlaa.PtrJ
end Go.Proofs.Ytfefpbnhpncmlaa.PtrJ
namespace Go.Proofs.Ytfefpbnhpncmlaa.PtrK
end Go.Proofs.Ytfefpbnhpncmlaa.PtrK
namespace Go.Proofs.Ytfefpbnhpncmlaa.RefA
end Go.Proofs.Ytfefpbnhpncmlaa.RefA
namespace Go.Proofs.Ytfefpbnhpncmlaa.RefG
end Go.Proofs.Ytfefpbnhpncmlaa.RefG
namespace Go.Proofs.Ytfefpbnhpncmlaa.StmA
end Go.Proofs.Ytfefpbnhpncmlaa.StmA
namespace Go.Proofs.Ytfefpbnhpncmlaa.StmB
end Go.Proofs.Ytfefpbnhpncmlaa.StmB
namespace Go.Proofs.Ytfefpbnhpncmlaa.StmC
end Go.Proofs.Ytfefpbnhpncmlaa.StmC
namespace Go.Proofs.Ytfefpbnhpncmlaa.StmD
end Go.Proofs.Ytfefpbnhpncmlaa.StmD
namespace Go.Proofs.Ytfefpbnhpncmlaa.StmE
end Go.Proofs.Ytfefpbnhpncmlaa.StmE
namespace Go.Proofs.Ytfefpbnhpncmlaa.StmF
end Go.Proofs.Ytfefpbnhpncmlaa.StmF
namespace Go.Proofs.Ytfefpbnhpncmlaa.StmG
end Go.Proofs.Ytfefpbnhpncmlaa.StmG
namespace Go.Proofs.Ytfefpbnhpncmlaa.StmH
end Go.Proofs.Ytfefpbnhpncmlaa.StmH
namespace Go.Proofs.Ytfefpbnhpncmlaa.StmI
end Go.Proofs.Ytfefpbnhpncmlaa.StmI
namespace Go.Proofs.Ytfefpbnhpncmlaa.StmJ
end Go.Proofs.Ytfefpbnhpncmlaa.StmJ
namespace Go.Proofs.Ytfefpbnhpncmlaa.StmK
end Go.Proofs.Ytfefpbnhpncmlaa.StmK
namespace Go.Proofs.Ytfefpbnhpncmlaa.StmL
end Go.Proofs.Ytfefpbnhpncmlaa.StmL
namespace Go.Proofs.Ytfefpbnhpncmlaa.StmM
end Go.Proofs.Ytfefpbnhpncmlaa.StmM
namespace Go.Proofs.Ytfefpbnhpncmlaa.StmN
end Go.Proofs.Ytfefpbnhpncmlaa.StmN
namespace Go.Proofs.Ytfefpbnhpncmlaa.StmO
end Go.Proofs.Ytfefpbnhpncmlaa.StmO
namespace Go.Proofs.Ytfefpbnhpncmlaa.StmP
end Go.Proofs.Ytfefpbnhpncmlaa.StmP
namespace Go.Proofs.YtfefpbnhpncmlaaW.Opens
end Go.Proofs.YtfefpbnhpncmlaaW.Opens
namespace Go.Proofs.YtfefpbnhpncmlaaW.PrintLast
end Go.Proofs.YtfefpbnhpncmlaaW.PrintLast
namespace Go.Proofs.YtfefpbnhpncmlaaW.PrintMore
end Go.Proofs.YtfefpbnhpncmlaaW.PrintMore
namespace Go.Proofs.YtfefpbnhpncmlaaW.PrintWords
end Go.Proofs.YtfefpbnhpncmlaaW.PrintWords
namespace Go.Proofs.YtfefpbnhpncmlaaW.PrintWords.Kd
end Go.Proofs.YtfefpbnhpncmlaaW.PrintWords.Kd
-- PRINTED BY print.sh 35421559b90ae4d0a3588c463048766b98c2df88dd9212a6774a882060cdf62d: not written by this session
/-
  PRINTED WORDS, second file: A REGION THAT DRAWS ITS ORDER, WALKED BY HAND, where its last store writes what its own loads read ('x.f = append(x.f, f(i))'). Plain theorems; no macro, no elab. A claim may hold it (turn the namespace's name).
  A load may be taken first in every world that meets S; behind the operations of ds nothing is shown; sound because each of ds waits for what is taken (Region.lastB). The kernel checks it.
  By an AI agent of Go's test side, Mon Nov 16 2026. No person has read it.
-/
namespace Go.Proofs.YtfefpbnhpncmlaaW.PrintLast

section
variable {P : Program} {ops : Array Oper} {Q : Exit → Act → World → Prop} {md : Region.Mode} {S : World → Prop} {ds : List Nat}

end

section
variable {P : Program} {ops : Array Oper} {Q : Exit → Act → World → Prop} {md : Region.Mode} {S : World → Prop} {ds : List Nat}

end
end Go.Proofs.YtfefpbnhpncmlaaW.PrintLast
-- PRINTED BY print.sh 35421559b90ae4d0a3588c463048766b98c2df88dd9212a6774a882060cdf62d: not written by this session
namespace Go.Proofs.YtfefpbnhpncmlaaW.PrintLast
open Go.Proofs.YtfefpbnhpncmlaaW.PrintWords (Aside0)
section
variable {md : Region.Mode} {ops : Array Oper} {T : Bool × List (List Nat × List Nat)} {l l' li lj lk : Array Bool} {ds : List Nat} {i j k : Nat}
end
end Go.Proofs.YtfefpbnhpncmlaaW.PrintLast
-- PRINTED BY print.sh 35421559b90ae4d0a3588c463048766b98c2df88dd9212a6774a882060cdf62d: not written by this session
namespace Go.Proofs.YtfefpbnhpncmlaaW.PrintLast
section
variable {P : Program} {ops : Array Oper} {Q : Exit → Act → World → Prop} {md : Region.Mode} {S : World → Prop} {ds : List Nat} {T : Bool × List (List Nat × List Nat)}
end
end Go.Proofs.YtfefpbnhpncmlaaW.PrintLast
-- PRINTED BY print.sh 35421559b90ae4d0a3588c463048766b98c2df88dd9212a6774a882060cdf62d: not written by this session
namespace Go.Proofs.YtfefpbnhpncmlaaW.PrintWords
open Go.RowKit
namespace Kd
section
variable {α : Type} {d : Kd α} {e base g o n cap : Nat} {ok okp : Nat → Prop} {w W : World} {v : Value} {xs : List α}
end
section
variable {α : Type} {enc : α → Value} {h1 : ∀ x, (enc x).oneCell' = true} {e base g o n cap : Nat} {ok : Nat → Prop} {W : World} {xs : List α}
end
end Kd
end Go.Proofs.YtfefpbnhpncmlaaW.PrintWords
-- PRINTED BY print.sh 35421559b90ae4d0a3588c463048766b98c2df88dd9212a6774a882060cdf62d: not written by this session
/-! ### 40. Elements whose inner rows lie apart: what is stored into one says nothing of the others.
   S: as R, with an owner function f (block to element's index). H: as S with a hole: of element i its cells alone are told, its blocks are oki. -/
namespace Go.Proofs.YtfefpbnhpncmlaaW.PrintWords
open Go.RowKit
namespace Kd
section
variable {α β : Type} {d : Kd α} {d' : Kd β} {e e' : Nat} {w w1 W : World} {base b : Nat} {ok ok' okv oku : Nat → Prop} {u v : Value} {xs : List α} {ys : List β}
/-- A row whose elements lead to nothing: its blocks are its own one. -/
theorem R_tight (hE : d.E = []) (h : d.R e w base ok v xs) : d.R e w base (fun k => some k = v.ownBlock) v xs := by
  obtain ⟨h0, inner, ho, hr⟩ := h
  refine ⟨fun k hk => hk.symm, inner, ho, hr.imp_ (fun p c hp => d.M_mono (fun k hk => ?_) (d.M_bound hp))⟩
  obtain ⟨_, _, _, q, hq, _⟩ := hk
  rw [hE] at hq
  cases hq
end
section
variable {α β : Type} {d : Kd α} {d' : Kd β} {e e' g : Nat} {w w1 W : World} {base b : Nat} {ok ok' okv oku : Nat → Prop} {u v : Value} {xs : List α} {ys : List β}
end
section
variable {P : Program} {ops : Array Oper} {rest : List Oper} {o : Oper} {a : Act} {Q : Exit → Act → World → Prop} {Kc : Act → World → Prop} {α : Type}
end
section
variable {α β : Type} {d : Kd α} {e e' g n cap : Nat} {w w1 W : World} {base : Nat} {ok ok' oki okp : Nat → Prop} {u v : Value} {xs : List α} {i : Int} {c : List Value}
end
section
variable {P : Program} {ops : Array Oper} {rest : List Oper} {o : Oper} {a : Act} {Q : Exit → Act → World → Prop} {α : Type}
end
end Kd
end Go.Proofs.YtfefpbnhpncmlaaW.PrintWords
-- PRINTED BY print.sh 35421559b90ae4d0a3588c463048766b98c2df88dd9212a6774a882060cdf62d: not written by this session
namespace Go.Proofs.YtfefpbnhpncmlaaW.PrintWords
open Go.RowKit
namespace Kd
section
variable {α : Type} {n : Nat} {d : Kd α} {hs : 0 < d.sz} {w : World} {base : Nat} {ok : Nat → Prop} {xs : List α} {cs : List Value}
end
section
variable {α : Type} {n : Nat} {enc : α → Value} {h1 : ∀ x, (enc x).oneCell' = true} {hs : 0 < (scalar enc h1).sz} {w : World} {base : Nat} {ok : Nat → Prop} {xs : List α} {cs : List Value}
end
end Kd
end Go.Proofs.YtfefpbnhpncmlaaW.PrintWords
-- PRINTED BY print.sh 35421559b90ae4d0a3588c463048766b98c2df88dd9212a6774a882060cdf62d: not written by this session
namespace Go.Proofs.YtfefpbnhpncmlaaW.PrintWords
open Go.RowKit
section
variable {P : Program}
end
namespace Kd
section
variable {P : Program} {ops : Array Oper} {rest : List Oper} {o : Oper} {a : Act} {Q : Exit → Act → World → Prop} {Kc : Act → World → Prop} {α : Type}
end
section
variable {α : Type} {d : Kd α} {e : Nat} {w : World} {base : Nat} {ok : Nat → Prop} {v : Value} {xs : List α}
end
section
variable {P : Program} {ops : Array Oper} {rest : List Oper} {o : Oper} {a : Act} {Q : Exit → Act → World → Prop} {Kc : Act → World → Prop} {α : Type}
end
end Kd
end Go.Proofs.YtfefpbnhpncmlaaW.PrintWords
-- PRINTED BY print.sh 35421559b90ae4d0a3588c463048766b98c2df88dd9212a6774a882060cdf62d: not written by this session
namespace Go.Proofs.YtfefpbnhpncmlaaW.PrintWords
open Go.RowKit
namespace Kd
section
variable {α : Type} {d : Kd α} {e base g n c : Nat} {ok : Nat → Prop} {w w0 W : World} {A : Option Addr} {xs : List α}
end
end Kd
end Go.Proofs.YtfefpbnhpncmlaaW.PrintWords
-- PRINTED BY print.sh 35421559b90ae4d0a3588c463048766b98c2df88dd9212a6774a882060cdf62d: not written by this session
namespace Go.Proofs.YtfefpbnhpncmlaaW.PrintWords
open Go.RowKit
section
variable {w W W2 : World} {S S2 S' : Nat → Prop}
end
namespace Kd
section
variable {α : Type} {d : Kd α} {e base n c : Nat} {ok oki S S2 : Nat → Prop} {w w0 W W1 W2 : World} {v : Value} {A : Option Addr} {xs : List α} {i : Int} {cs : List Value}
end
end Kd
end Go.Proofs.YtfefpbnhpncmlaaW.PrintWords
-- PRINTED BY print.sh 35421559b90ae4d0a3588c463048766b98c2df88dd9212a6774a882060cdf62d: not written by this session
namespace Go.Proofs.YtfefpbnhpncmlaaW.PrintWords
open Go.RowKit
namespace Foot
variable {P Q : World → Prop} {W W1 : World} {ok ok' : Nat → Prop}
end Foot
namespace Kd
section
variable {α β : Type} {d : Kd α} {e base n n' cc g N : Nat} {ok ok' okp S : Nat → Prop} {w w0 w1 W W1 : World} {A A' : Option Addr} {u v v1 : Value} {xs : List α} {xs' : List β} {d' : Kd β} {x : α} {c : List Value}
end
end Kd
end Go.Proofs.YtfefpbnhpncmlaaW.PrintWords
-- PRINTED BY print.sh 35421559b90ae4d0a3588c463048766b98c2df88dd9212a6774a882060cdf62d: not written by this session
namespace Go.Proofs.YtfefpbnhpncmlaaW.PrintWords
open Go.RowKit
namespace Kd
section
variable {α : Type} {d : Kd α} {e base n cc g : Nat} {ok ok' okp S : Nat → Prop} {w w1 W W1 : World} {A : Option Addr} {u v v1 : Value} {xs : List α} {x : α} {c : List Value}
end
end Kd
end Go.Proofs.YtfefpbnhpncmlaaW.PrintWords
-- PRINTED BY print.sh 35421559b90ae4d0a3588c463048766b98c2df88dd9212a6774a882060cdf62d: not written by this session
namespace Go.Proofs.YtfefpbnhpncmlaaW.PrintWords
open Go.RowKit
namespace Kd
section
variable {α : Type} {d : Kd α} {W : World} {g n : Nat} {S ok : Nat → Prop} {A : Option Addr} {ad : Addr} {xs : List α}
end
end Kd
end Go.Proofs.YtfefpbnhpncmlaaW.PrintWords
-- PRINTED BY print.sh 35421559b90ae4d0a3588c463048766b98c2df88dd9212a6774a882060cdf62d: not written by this session
namespace Go.Proofs.YtfefpbnhpncmlaaW.PrintWords
open Go.RowKit
section
variable {w w' u : World} {m B g : Nat} {o : Obj} {row : Option Nat} {S : Nat → Prop} {a : Addr} {v : Value}
end
namespace Kd
section
variable {α : Type} {d : Kd α} {e base n m : Nat} {ok : Nat → Prop} {w w' : World} {v : Value} {A : Option Addr} {xs : List α}
end
end Kd
end Go.Proofs.YtfefpbnhpncmlaaW.PrintWords
-- PRINTED BY print.sh 35421559b90ae4d0a3588c463048766b98c2df88dd9212a6774a882060cdf62d: not written by this session
namespace Go.Proofs.YtfefpbnhpncmlaaW.PrintWords
open Go.RowKit
section
variable {P : Program} {d : Nat} {xs ys : Array Value} {f : Field} {fs : List Field} {a b : Value} {r s : Bool} {w : World}
end
end Go.Proofs.YtfefpbnhpncmlaaW.PrintWords
-- PRINTED BY print.sh 35421559b90ae4d0a3588c463048766b98c2df88dd9212a6774a882060cdf62d: not written by this session
namespace Go.Proofs.YtfefpbnhpncmlaaW.PrintWords
end Go.Proofs.YtfefpbnhpncmlaaW.PrintWords
-- PRINTED BY print.sh 35421559b90ae4d0a3588c463048766b98c2df88dd9212a6774a882060cdf62d: not written by this session
namespace Go.Proofs.YtfefpbnhpncmlaaW.PrintLast
section
variable {P : Program} {ops : Array Oper} {Q : Exit → Act → World → Prop} {md : Region.Mode} {T : Bool × List (List Nat × List Nat)} {B : List Nat} {O : List Nat} {b : Nat → Bool} {i j n : Nat}
end
end Go.Proofs.YtfefpbnhpncmlaaW.PrintLast
-- PRINTED BY print.sh 35421559b90ae4d0a3588c463048766b98c2df88dd9212a6774a882060cdf62d: not written by this session
namespace Go.Proofs.YtfefpbnhpncmlaaW.PrintWords
open Go.RowKit
end Go.Proofs.YtfefpbnhpncmlaaW.PrintWords
namespace Go.Proofs.YtfefpbnhpncmlaaW.PrintLast
section
variable {ops : Array Oper} {a : Act} {o og : Oper} {g : Nat} {t : Tmp} {u : Bool}
end
end Go.Proofs.YtfefpbnhpncmlaaW.PrintLast
-- PRINTED BY print.sh 35421559b90ae4d0a3588c463048766b98c2df88dd9212a6774a882060cdf62d: not written by this session
namespace Go.Proofs.YtfefpbnhpncmlaaW.PrintWords
open Go.RowKit
section
variable {P : Program} {ops : Array Oper} {rest : List Oper} {o : Oper} {a : Act} {Q : Exit → Act → World → Prop} {W : World}
end
end Go.Proofs.YtfefpbnhpncmlaaW.PrintWords
-- PRINTED BY print.sh 35421559b90ae4d0a3588c463048766b98c2df88dd9212a6774a882060cdf62d: not written by this session
namespace Go.Proofs.YtfefpbnhpncmlaaW.PrintWords
open Go.RowKit
namespace Kd
section
variable {α : Type} {d : Kd α} {e base n cap g : Nat} {ok ok' okp : Nat → Prop} {w w1 W : World} {v v1 : Value} {xs ys : List α}
end
section
variable {P : Program} {ops : Array Oper} {rest : List Oper} {o : Oper} {a : Act} {Q : Exit → Act → World → Prop} {Kc : Act → World → Prop} {α : Type}
end
end Kd
end Go.Proofs.YtfefpbnhpncmlaaW.PrintWords
-- PRINTED BY print.sh 35421559b90ae4d0a3588c463048766b98c2df88dd9212a6774a882060cdf62d: not written by this session
-- PRINTED WORDS (module Derived/Print/More.lean): go-gate-2's additions: an AI agent of Go's test side, Tue Nov 17 2026; no person has read it. Lean checks it.
namespace Go.Proofs.YtfefpbnhpncmlaaW.PrintMore
open Go.RowKit Go.Proofs.YtfefpbnhpncmlaaW.PrintWords
namespace Kd
open Go.Proofs.YtfefpbnhpncmlaaW.PrintWords.Kd
end Kd

namespace Kd
open Go.Proofs.YtfefpbnhpncmlaaW.PrintWords.Kd
section
variable {α : Type} {d : Kd α} {e base g N : Nat} {ok : Nat → Prop} {W w1 : World} {u v : Value} {xs : List α}
end
end Kd
/-- 'max' and 'min' of two whole numbers. -/
theorem max2_int (k k' : IntKind) (x y : Int) : Builtin.max2 (.int k x) (.int k' y) = pure (.int k (if x < y then y else x)) := by simp only [Builtin.max2, gt_iff_lt]
theorem min2_int (k k' : IntKind) (x y : Int) : Builtin.min2 (.int k x) (.int k' y) = pure (.int k (if y < x then y else x)) := by simp only [Builtin.min2]
theorem max_two (ats : Array TypeId) (ty : TypeId) (a b : Value) : Builtin.max_ ats ty #[a, b] = (Builtin.max2 a b >>= fun s => pure s) := by simp only [Builtin.max_, List.foldlM_cons, List.foldlM_nil]
theorem min_two (ats : Array TypeId) (ty : TypeId) (a b : Value) : Builtin.min_ ats ty #[a, b] = (Builtin.min2 a b >>= fun s => pure s) := by simp only [Builtin.min_, List.foldlM_cons, List.foldlM_nil]
end Go.Proofs.YtfefpbnhpncmlaaW.PrintMore
namespace Go.Proofs.YtfefpbnhpncmlaaW.PrintWords
open Go.RowKit
section
variable {P : Program} {ops : Array Oper} {rest : List Oper} {o : Oper} {a : Act} {Q : Exit → Act → World → Prop} {W : World}
end
namespace Kd
section
variable {α : Type} {d : Kd α} {e base : Nat} {ok : Nat → Prop} {W w1 : World} {v : Value} {xs : List α}
end
section
variable {α : Type} {d : Kd α} {e base g n cap : Nat} {ok oki okp : Nat → Prop} {W : World} {xs : List α} {i : Int} {c : List Value}
end
section
variable {α : Type} {d : Kd α} {e base b b' g N : Nat} {ok ok1 : Nat → Prop} {W W2 w1 : World} {u v : Value} {xs ys : List α} {S : Nat → Prop}
theorem R_reok (hE : d.E = []) (h : d.R e W base ok1 v xs) (hok : ∀ k, v.ownBlock = some k → ok k) : d.R e W base ok v xs := R_mono (R_tight hE h) (fun k hk => hok k hk.symm)
end
end Kd
end Go.Proofs.YtfefpbnhpncmlaaW.PrintWords
namespace Go.Proofs.YtfefpbnhpncmlaaW.PrintWords
open Go.RowKit
namespace Kd
section
variable {α β : Type} {d : Kd α} {e base base' n m c g N' lo hi : Nat} {ok ok' S : Nat → Prop} {w W w1 : World} {A : Option Addr} {ad : Addr} {u v v1 : Value} {xs : List α}
end
end Kd
end Go.Proofs.YtfefpbnhpncmlaaW.PrintWords
namespace Go.Proofs.Ytfefpbnhpncmlaa.B8
open Go.RowKit Go.Proofs.Ytfefpbnhpncmlaa.PBaseSigns Go.Proofs.YtfefpbnhpncmlaaW.PrintWords Go.Proofs.YtfefpbnhpncmlaaW.PrintLast Go.Proofs.YtfefpbnhpncmlaaW.PrintMore
set_option linter.unusedVariables false

theorem info5 : (Try.prog.info? 5).map (fun i => (i.zero, i.size, i.bytes)) = some (some (.int .u8 0), 1, 1) := by kernel_rfl
/-- A row of bytes that the call itself made. -/
abbrev R8 (w : World) (base : Nat) (v : Value) (xs : List Int) : Prop := Kd.R (Kd.int .u8) 5 w base (fun _ => True) v xs
/-- A row of bytes that is read. -/
abbrev C8 (w : World) (A : Option Addr) (n : Nat) (xs : List Int) : Prop := Kd.C (Kd.int .u8) w A n xs

section
variable {ops : Array Oper} {o : Oper} {rest : List Oper} {a : Act} {Q : Exit → Act → World → Prop}
end

/-- Where a row that is read lies. -/
theorem C_at {α : Type} {enc : α → Value} {h1 : ∀ x, (enc x).oneCell' = true} {w : World} {A : Option Addr} {n : Nat} {xs : List α} (d : α) (h : Kd.C (Kd.scalar enc h1) w A n xs) (h0 : 0 < n) :
    ∃ b off, A = some ⟨b, off, none⟩ ∧ b < w.heap.size ∧ ∀ i, i < n → w.cell? ⟨b, off + i, none⟩ = some (enc (xs.getD i d)) := by
  obtain ⟨ad, e, hx⟩ := h.2.2 h0
  have hl := h.1
  have each : ∀ i, i < n → w.cell? (ad.add i) = some (enc (xs.getD i d)) := by
    intro i hi
    obtain ⟨c, hc, hk, hj⟩ := hx i (xs.getD i d) (by simp [List.getD, hl, hi])
    have hk' : c = [enc (xs.getD i d)] := hk
    subst hk'
    have := hj 0 _ rfl
    simpa [show (Kd.scalar enc h1).sz = 1 from rfl] using this
  have g0 := each 0 h0
  rw [show ad.add 0 = ad from rfl] at g0
  have hs : ad.spot = none := World.cell?_spot g0
  obtain ⟨b, off, s⟩ := ad
  simp only at hs
  subst hs
  refine ⟨b, off, e, World.block_lt_of_cell? w _ g0, fun i hi => ?_⟩
  have := each i hi
  rwa [show (⟨b, off, none⟩ : Addr).add i = ⟨b, off + i, none⟩ from add_at b off i] at this

theorem C_take {α : Type} {d : Kd α} {w : World} {A : Option Addr} {n m : Nat} {xs : List α} (h : Kd.C d w A n xs) (hm : m ≤ n) : Kd.C d w A m (xs.take m) := by
  obtain ⟨h1, h2, h3⟩ := h
  refine ⟨by simp; omega, by omega, fun h0 => ?_⟩
  obtain ⟨ad, e, h4⟩ := h3 (by omega)
  refine ⟨ad, e, fun j p hj => h4 j p ?_⟩
  rw [List.getElem?_take] at hj
  split at hj
  · exact hj
  · cases hj

theorem C_drop {α : Type} {d : Kd α} {w : World} {A : Option Addr} {n j c : Nat} {xs : List α} (h : Kd.C d w A n xs) (hc : n ≤ c) (hj : j ≤ n) :
    Kd.C d w (if c = j then A else A.map (·.add (j * d.sz))) (n - j) (xs.drop j) := by
  obtain ⟨h1, h2, h3⟩ := h
  refine ⟨by simp; omega, by omega, fun h0 => ?_⟩
  obtain ⟨ad, rfl, h4⟩ := h3 (by omega)
  rw [if_neg (by omega)]
  refine ⟨_, rfl, fun i p hi => ?_⟩
  rw [List.getElem?_drop] at hi
  obtain ⟨cs, g1, g2, g3⟩ := h4 _ _ hi
  refine ⟨cs, g1, g2, fun k u hk => ?_⟩
  rw [Go.Deep.add_add, ← Nat.add_assoc, ← Nat.add_mul]
  exact g3 k u hk
end Go.Proofs.Ytfefpbnhpncmlaa.B8
namespace Go.Proofs.Ytfefpbnhpncmlaa.CodL

/-- All are bytes. -/
def Byt (l : List Int) : Prop := ∀ x ∈ l, 0 ≤ x ∧ x < 256
theorem Byt.append {l r : List Int} (h : Byt l) (h2 : Byt r) : Byt (l ++ r) := fun x hx => (List.mem_append.1 hx).elim (h x) (h2 x)
/-- So many bytes of a number, the lowest first. -/
def fixedL (size : Nat) (n : Int) : List Int := (List.range size).map fun i => n / 256 ^ i % 256
theorem fixedL_succ (k : Nat) (n : Int) : fixedL (k + 1) n = fixedL k n ++ [n / 256 ^ k % 256] := by simp [fixedL, List.range_succ]
theorem fixedL_len (k : Nat) (n : Int) : (fixedL k n).length = k := by simp [fixedL]
theorem fixedL_byt (k : Nat) (n : Int) : Byt (fixedL k n) := by
  intro x hx
  obtain ⟨i, _, rfl⟩ := List.mem_map.1 hx
  omega
end Go.Proofs.Ytfefpbnhpncmlaa.CodL
/-
  DERIVED: THE SHELF's CONTRACTS AT THIS DUMP, IN PLAIN WORDS (tools/lay-plain.mjs out of 'TryShelf.lean', which tools/lay-shelf.mjs wrote): THE SAME DECLARATIONS UNDER THE SAME NAMES: 'import', 'namespace', 'open', 'def', 'theorem' AND NOTHING ELSE: no command of the shelf's: FOR A HAND-IN. Each laying: the table of numbers ('.._ren') and one theorem, a field a fact of the dump's own or the kernel's comparison; each contract: ONE APPLICATION.
-/
namespace Go.Proofs
open Go.Shelf
end Go.Proofs
namespace Go.Proofs.Ytfefpbnhpncmlaa.CodA
open Go.RowKit Go.Proofs.Ytfefpbnhpncmlaa.B8 Go.Proofs.Ytfefpbnhpncmlaa.CodL Go.Proofs.Ytfefpbnhpncmlaa.PBaseSigns Go.Proofs.YtfefpbnhpncmlaaW.PrintWords Go.Proofs.YtfefpbnhpncmlaaW.PrintLast Go.Proofs.YtfefpbnhpncmlaaW.PrintMore
attribute [local go_sem] max2_int min2_int max_two min_two
set_option linter.unusedVariables false
set_option linter.unusedSimpArgs false

theorem ret_int {k : IntKind} {a b : Int} (h : a = b) : Ending.returned (.int k a) = .returned (.int k b) := by rw [h]
/-- A row of bytes is told that the call itself made. -/
def Tells (w : World) (l : List Int) (e : Ending) (w' : World) : Prop := ∃ v, e = .returned v ∧ R8 w' w.heap.size v l ∧ Below w.heap.size w w'

end Go.Proofs.Ytfefpbnhpncmlaa.CodA
namespace Go.Proofs.Ytfefpbnhpncmlaa.CodB
open Go.RowKit Go.Proofs.Ytfefpbnhpncmlaa.B8 Go.Proofs.Ytfefpbnhpncmlaa.CodL Go.Proofs.Ytfefpbnhpncmlaa.CodA Go.Proofs.Ytfefpbnhpncmlaa.PBaseSigns Go.Proofs.YtfefpbnhpncmlaaW.PrintWords Go.Proofs.YtfefpbnhpncmlaaW.PrintLast Go.Proofs.YtfefpbnhpncmlaaW.PrintMore
attribute [local go_sem] max2_int min2_int max_two min_two
set_option linter.unusedVariables false
set_option linter.unusedSimpArgs false

theorem pow256 (j : Nat) : (2 : Int) ^ (8 * j) = 256 ^ j := by rw [Int.pow_mul]; rfl

end Go.Proofs.Ytfefpbnhpncmlaa.CodB
namespace Go.Proofs.Ytfefpbnhpncmlaa.CodC
open Go.RowKit Go.Proofs.Ytfefpbnhpncmlaa.B8 Go.Proofs.Ytfefpbnhpncmlaa.CodL Go.Proofs.Ytfefpbnhpncmlaa.CodA Go.Proofs.Ytfefpbnhpncmlaa.CodB Go.Proofs.Ytfefpbnhpncmlaa.PBaseSigns Go.Proofs.YtfefpbnhpncmlaaW.PrintWords Go.Proofs.YtfefpbnhpncmlaaW.PrintLast Go.Proofs.YtfefpbnhpncmlaaW.PrintMore
attribute [local go_sem] max2_int min2_int max_two min_two
set_option linter.unusedVariables false
set_option linter.unusedSimpArgs false

end Go.Proofs.Ytfefpbnhpncmlaa.CodC
namespace Go.Proofs.Ytfefpbnhpncmlaa.CatL
open Go.Proofs.Ytfefpbnhpncmlaa.CodL

/-- A pointer. -/
structure Ptr where
  at_ : Int
  birth : Int
  len : Int
  crc : Int
  sha : List Int
deriving DecidableEq
def zeroP : Ptr := ⟨0, 0, 0, 0, List.replicate 32 0⟩
def sect (n : Int) : Int := if n < 1 ∨ 65536 < n then 0 else (n + 511) / 512
theorem sect_bound (n : Int) : 0 ≤ sect n ∧ sect n ≤ 128 := by unfold sect; split <;> omega
/-- Its parts are of their kinds. -/
structure Ok (p : Ptr) : Prop where
  crc0 : 0 ≤ p.crc
  crc1 : p.crc < 4294967296
  len : p.sha.length = 32
  sha : Byt p.sha
end Go.Proofs.Ytfefpbnhpncmlaa.CatL
namespace Go.Proofs.Ytfefpbnhpncmlaa.PtrA
open Go.RowKit Go.Proofs.Ytfefpbnhpncmlaa.B8 Go.Proofs.Ytfefpbnhpncmlaa.CodL Go.Proofs.Ytfefpbnhpncmlaa.CatL Go.Proofs.Ytfefpbnhpncmlaa.PBaseSigns Go.Proofs.YtfefpbnhpncmlaaW.PrintWords Go.Proofs.YtfefpbnhpncmlaaW.PrintLast Go.Proofs.YtfefpbnhpncmlaaW.PrintMore
set_option linter.unusedVariables false
set_option linter.unusedSimpArgs false

/-- The cells of a pointer. -/
structure PC (cs : Array Value) (p : Ptr) : Prop where
  size : cs.size = 36
  c0 : cs[0]? = some (.int .i64 p.at_)
  c1 : cs[1]? = some (.int .i64 p.birth)
  c2 : cs[2]? = some (.int .i64 p.len)
  c3 : cs[3]? = some (.int .u32 p.crc)
  sha : ∀ i, i < 32 → cs[4 + i]? = some (.int .u8 (p.sha.getD i 0))

theorem sectors_calls (cs : Array Value) (p : Ptr) (hp : PC cs p) (w : World) : Calls Try.prog 85 #[.agg cs] w fun e w' => e = .returned (.int .i64 (sect p.len)) ∧ Below w.heap.size w w' := by
  have x2 : (w.alloc (.cells cs 56)).cell? ⟨w.heap.size, 2, none⟩ = some (.int .i64 p.len) := by rw [cell_of_row _ _ 2 cs 56 (0, 0) (blk_new _ _)]; exact hp.c2
  generalize p.len = n at *
  by_cases h1 : n < 1
  · go_enter Try.func85, Try.ntmps85
    go_wp2
    go_ret
    exact ⟨by unfold sect; rw [if_pos (.inl h1)]; rfl, below_alloc (Below.refl _ _) _⟩
  · by_cases h2 : 65536 < n
    · go_enter Try.func85, Try.ntmps85
      go_wp2
      go_ret
      exact ⟨by unfold sect; rw [if_pos (.inr h2)]; rfl, below_alloc (Below.refl _ _) _⟩
    · go_enter Try.func85, Try.ntmps85
      go_wp2
      go_ret
      exact ⟨by unfold sect; rw [if_neg (by omega)]; exact CodA.ret_int (by omega), below_alloc (Below.refl _ _) _⟩

theorem rsectors_calls (cs : Array Value) (p : Ptr) (hp : PC cs p) (w : World) : Calls Try.prog 86 #[.agg cs] w fun e w' => e = .returned (.int .i64 (sect p.len)) ∧ Below w.heap.size w w' := by
  have x2 : (w.alloc (.cells cs 56)).cell? ⟨w.heap.size, 2, none⟩ = some (.int .i64 p.len) := by rw [cell_of_row _ _ 2 cs 56 (0, 0) (blk_new _ _)]; exact hp.c2
  generalize p.len = n at *
  by_cases h1 : n < 1
  · go_enter Try.func86, Try.ntmps86
    go_wp2
    go_ret
    exact ⟨by unfold sect; rw [if_pos (.inl h1)]; rfl, below_alloc (Below.refl _ _) _⟩
  · by_cases h2 : 65536 < n
    · go_enter Try.func86, Try.ntmps86
      go_wp2
      go_ret
      exact ⟨by unfold sect; rw [if_pos (.inr h2)]; rfl, below_alloc (Below.refl _ _) _⟩
    · go_enter Try.func86, Try.ntmps86
      go_wp2
      go_ret
      exact ⟨by unfold sect; rw [if_neg (by omega)]; exact CodA.ret_int (by omega), below_alloc (Below.refl _ _) _⟩

end Go.Proofs.Ytfefpbnhpncmlaa.PtrA
namespace Go.Proofs.Ytfefpbnhpncmlaa.PtrB
open Go.RowKit Go.Proofs.Ytfefpbnhpncmlaa.B8 Go.Proofs.Ytfefpbnhpncmlaa.CodL Go.Proofs.Ytfefpbnhpncmlaa.CatL Go.Proofs.Ytfefpbnhpncmlaa.PtrA Go.Proofs.Ytfefpbnhpncmlaa.PBaseSigns Go.Proofs.YtfefpbnhpncmlaaW.PrintWords Go.Proofs.YtfefpbnhpncmlaaW.PrintLast Go.Proofs.YtfefpbnhpncmlaaW.PrintMore
set_option linter.unusedVariables false
set_option linter.unusedSimpArgs false

/-- A whole row is loaded, in any world that keeps it. -/
theorem yieldsIf_load_row {P : Program} {ops : Array Oper} {S : World → Prop} {op : Oper} {a : Act} (hw : Region.wanted op (yielded ops a.tmps) = true) (ty : TypeId) (x : Operand) (ho : op.op = .load ty x)
    (g : Nat) (hx : a.eval x = .pointer (some ⟨g, 0, none⟩)) (t : TypeId) (cs : Array Value) (fr : Nat × Nat) (d : TypeDesc) (hg : ∀ w, S w → w.heap[g]? = some (.cells cs t fr))
    (hu : P.underlying ty = some d) (hd : (match d with | .struct _ | .array _ _ => true | _ => false) = true) (hi : (P.info? ty).map (·.size) = some cs.size) : YieldsIf P ops S op (.agg cs) a :=
  .inl ⟨hw, fun w hS => by
    unfold execOp
    simp only [ho, hx, Instr.loadAt, Instr.sureAddr, Sem.run_bind, Sem.run_pure, Result.andThen_ok, run_loadVar_row w g t ty cs fr d (hg w hS) hu hd hi]⟩

end Go.Proofs.Ytfefpbnhpncmlaa.PtrB
namespace Go.Proofs.Ytfefpbnhpncmlaa.PtrE
open Go.RowKit Go.Proofs.Ytfefpbnhpncmlaa.B8 Go.Proofs.Ytfefpbnhpncmlaa.CodL Go.Proofs.Ytfefpbnhpncmlaa.CatL Go.Proofs.Ytfefpbnhpncmlaa.PtrA
set_option linter.unusedVariables false
set_option linter.unusedSimpArgs false

/-- A pointer's cells. -/
def encP (p : Ptr) : Array Value := #[.int .i64 p.at_, .int .i64 p.birth, .int .i64 p.len, .int .u32 p.crc] ++ (p.sha.map (Value.int .u8)).toArray
theorem encP_size {p : Ptr} (h : p.sha.length = 32) : (encP p).size = 36 := by simp [encP, h]
theorem pc (p : Ptr) (h : p.sha.length = 32) : PC (encP p) p := by
  refine ⟨encP_size h, by simp [encP], by simp [encP], by simp [encP], by simp [encP], fun i hi => ?_⟩
  simp only [encP]
  rw [Array.getElem?_append_right (by simp)]
  simp [h, hi]

theorem all_range_eq : ∀ (xs ys : List Int), xs.length = ys.length → ((List.range xs.length).all fun i => xs.getD i 0 == ys.getD i 0) = (xs == ys)
  | [], [], _ => rfl
  | x :: xs, y :: ys, h => by
    have ih := all_range_eq xs ys (by simpa using h)
    rw [List.length_cons, List.range_succ_eq_map, List.all_cons, List.all_map]
    simp only [List.getD_cons_zero, Function.comp_def, List.getD_cons_succ, ih]
    simp [List.cons_beq_cons]
  | [], _ :: _, h => by simp at h
  | _ :: _, [], h => by simp at h

theorem run_equalIn_bytes {P : Program} (w : World) (d : Nat) (t e : TypeId) (n : Nat) (ht : P.underlying t = some (.array n e)) (he : P.underlying e = some (.int .u8)) (hsz : ∀ w, (sizeOf e).run P w = .ok 1 w)
    (xs ys : List Int) (hx : xs.length = n) (hy : ys.length = n) :
    (Op.equalIn (d + 2) t (.agg (xs.map (Value.int .u8)).toArray) (.agg (ys.map (Value.int .u8)).toArray)).run P w = .ok (xs == ys) w := by
  rw [← all_range_eq xs ys (hx.trans hy.symm), hx, List.range_eq_range', Op.equalIn]
  simp only [Sem.run_bind, run_underlying ht, Result.andThen_ok, hsz, Std.Legacy.Range.forIn_eq_forIn_range', Std.Legacy.Range.size, Nat.sub_zero, Nat.add_sub_cancel, Nat.div_one]
  have hl : ∀ i ∈ List.range' 0 n 1, i < n := fun i hi => by simpa using (List.mem_range'_1.1 hi).2
  generalize List.range' 0 n 1 = l at hl ⊢
  induction l with
  | nil => simp
  | cons i l ih =>
    have hi : i < n := hl i (by simp)
    have px : (part e (xs.map (Value.int .u8)).toArray (i * 1)).run P w = .ok (.int .u8 (xs.getD i 0)) w := by
      simp [part, isAgg, run_underlying he, List.getD, List.getElem?_eq_getElem (show i < xs.length by omega)]
    have py : (part e (ys.map (Value.int .u8)).toArray (i * 1)).run P w = .ok (.int .u8 (ys.getD i 0)) w := by
      simp [part, isAgg, run_underlying he, List.getD, List.getElem?_eq_getElem (show i < ys.length by omega)]
    have pe := run_equalIn_int (P := P) w d e .u8 .u8 (xs.getD i 0) (ys.getD i 0) he
    simp only [List.forIn_cons, Sem.run_bind, px, py, pe, Result.andThen_ok, List.all_cons]
    cases hq : xs.getD i 0 == ys.getD i 0 with
    | false => simp
    | true =>
      simp only [Bool.not_true, Bool.false_eq_true, if_false, Sem.run_pure, Result.andThen_ok, Bool.true_and]
      exact ih (fun i hi => hl i (by simp [hi]))

theorem fields56 : (Try.prog.fieldsOf 56).toList.map (fun f => (f.name, f.type, f.offset)) = [("At", 3, 0), ("Birth", 3, 1), ("Length", 3, 2), ("Crc", 53, 3), ("Sha", 54, 4)] := by kernel_rfl
theorem sz5 (w : World) : (sizeOf 5).run Try.prog w = .ok 1 w := by kernel_rfl
theorem sz54 (w : World) : (sizeOf 54).run Try.prog w = .ok 32 w := by kernel_rfl
theorem underl56 : Try.prog.underlying 56 = some (.struct (Try.prog.fieldsOf 56)) := by kernel_rfl
theorem stood56 : Try.prog.stoodInHeld 56 = false := by kernel_rfl
theorem agg3 (w : World) : (isAgg 3).run Try.prog w = .ok false w := by kernel_rfl
theorem agg53 (w : World) : (isAgg 53).run Try.prog w = .ok false w := by kernel_rfl
theorem agg54 (w : World) : (isAgg 54).run Try.prog w = .ok true w := by kernel_rfl
theorem part_sha {p : Ptr} (h : p.sha.length = 32) (w : World) : (part 54 (encP p) 4).run Try.prog w = .ok (.agg (p.sha.map (Value.int .u8)).toArray) w := by
  unfold part
  simp only [Sem.run_bind, agg54, sz54, Result.andThen_ok, if_true, Sem.run_pure]
  congr 2
  apply Array.ext'
  simp [encP, h, List.take_of_length_le]
/-- Two pointers are equal, or not. -/
theorem eq56 (p q : Ptr) (hp : p.sha.length = 32) (hq : q.sha.length = 32) (w : World) : (Op.equalIn 10000 56 (.agg (encP p)) (.agg (encP q))).run Try.prog w = .ok (decide (p = q)) w := by
  have hf := fields56
  rw [show (10000 : Nat) = 9999 + 1 from rfl, run_equalIn_struct w 9999 56 _ _ underl56 stood56]
  generalize (Try.prog.fieldsOf 56).toList = fs at hf
  rcases fs with _ | ⟨f0, fs⟩; · simp at hf
  rcases fs with _ | ⟨f1, fs⟩; · simp at hf
  rcases fs with _ | ⟨f2, fs⟩; · simp at hf
  rcases fs with _ | ⟨f3, fs⟩; · simp at hf
  rcases fs with _ | ⟨f4, fs⟩; · simp at hf
  rcases fs with _ | ⟨f5, fs⟩
  · simp only [List.map_cons, List.map_nil, List.cons.injEq, Prod.mk.injEq, and_true] at hf
    obtain ⟨⟨n0, t0, o0⟩, ⟨n1, t1, o1⟩, ⟨n2, t2, o2⟩, ⟨n3, t3, o3⟩, n4, t4, o4⟩ := hf
    have a0 : ∀ (p : Ptr) (w : World), (part 3 (encP p) 0).run Try.prog w = .ok (.int .i64 p.at_) w := fun p w => by simp [part, agg3, encP]
    have a1 : ∀ (p : Ptr) (w : World), (part 3 (encP p) 1).run Try.prog w = .ok (.int .i64 p.birth) w := fun p w => by simp [part, agg3, encP]
    have a2 : ∀ (p : Ptr) (w : World), (part 3 (encP p) 2).run Try.prog w = .ok (.int .i64 p.len) w := fun p w => by simp [part, agg3, encP]
    have a3 : ∀ (p : Ptr) (w : World), (part 53 (encP p) 3).run Try.prog w = .ok (.int .u32 p.crc) w := fun p w => by simp [part, agg53, encP]
    have e0 : ("At" = "_") = False := by decide
    have e1 : ("Birth" = "_") = False := by decide
    have e2 : ("Length" = "_") = False := by decide
    have e3 : ("Crc" = "_") = False := by decide
    have e4 : ("Sha" = "_") = False := by decide
    have q3 : ∀ (x y : Int) (w : World), (Op.equalIn 9999 3 (.int .i64 x) (.int .i64 y)).run Try.prog w = .ok (x == y) w := fun x y w => run_equalIn_int (P := Try.prog) w 9998 3 .i64 .i64 x y Try.underlying3
    have q53 : ∀ (x y : Int) (w : World), (Op.equalIn 9999 53 (.int .u32 x) (.int .u32 y)).run Try.prog w = .ok (x == y) w := fun x y w => run_equalIn_int (P := Try.prog) w 9998 53 .u32 .u32 x y Try.underlying53
    have qs : ∀ w : World, (Op.equalIn 9999 54 (.agg (p.sha.map (Value.int .u8)).toArray) (.agg (q.sha.map (Value.int .u8)).toArray)).run Try.prog w = .ok (p.sha == q.sha) w := fun w => run_equalIn_bytes (P := Try.prog) w 9997 54 5 32 Try.underlying54 Try.underlying5 sz5 _ _ hp hq
    have s1 := fun w => part_sha hp w
    have s2 := fun w => part_sha hq w
    have hd : decide (p = q) = (p.at_ == q.at_ && (p.birth == q.birth && (p.len == q.len && (p.crc == q.crc && p.sha == q.sha)))) := by
      obtain ⟨pa, pb, pl, pc', ps⟩ := p
      obtain ⟨qa, qb, ql, qc, qs⟩ := q
      simp only [Ptr.mk.injEq]
      rw [Bool.eq_iff_iff]
      simp
    rw [hd]
    cases h0 : p.at_ == q.at_ <;> cases h1 : p.birth == q.birth <;> cases h2 : p.len == q.len <;> cases h3 : p.crc == q.crc <;> cases h4 : p.sha == q.sha <;>
      simp [Op.eqFields, n0, n1, n2, n3, n4, t0, t1, t2, t3, t4, o0, o1, o2, o3, o4, a0, a1, a2, a3, q3, q53, qs, s1, s2, h0, h1, h2, h3, h4, Result.andThen]
  · simp at hf
theorem neq56 (p q : Ptr) (hp : p.sha.length = 32) (hq : q.sha.length = 32) (w : World) : (binOp .neq 56 (.agg (encP p)) (.agg (encP q))).run Try.prog w = .ok (.bool (!decide (p = q))) w := by
  rw [run_neq_struct, eq56 p q hp hq]
  rfl
end Go.Proofs.Ytfefpbnhpncmlaa.PtrE
namespace Go.Proofs.Ytfefpbnhpncmlaa.PtrF
open Go.RowKit Go.Proofs.Ytfefpbnhpncmlaa.B8 Go.Proofs.Ytfefpbnhpncmlaa.CodL Go.Proofs.Ytfefpbnhpncmlaa.CatL Go.Proofs.Ytfefpbnhpncmlaa.PtrA Go.Proofs.Ytfefpbnhpncmlaa.PtrB Go.Proofs.Ytfefpbnhpncmlaa.PtrE Go.Proofs.Ytfefpbnhpncmlaa.PBaseSigns Go.Proofs.YtfefpbnhpncmlaaW.PrintWords Go.Proofs.YtfefpbnhpncmlaaW.PrintLast Go.Proofs.YtfefpbnhpncmlaaW.PrintMore
set_option linter.unusedVariables false
set_option linter.unusedSimpArgs false

/-- The pointer of nothing, as cells. -/
abbrev Z56 : Array Value := #[.int .i64 0, .int .i64 0, .int .i64 0, .int .u32 0, .int .u8 0, .int .u8 0, .int .u8 0, .int .u8 0, .int .u8 0, .int .u8 0, .int .u8 0, .int .u8 0, .int .u8 0, .int .u8 0, .int .u8 0, .int .u8 0, .int .u8 0, .int .u8 0, .int .u8 0, .int .u8 0, .int .u8 0, .int .u8 0, .int .u8 0, .int .u8 0, .int .u8 0, .int .u8 0, .int .u8 0, .int .u8 0, .int .u8 0, .int .u8 0, .int .u8 0, .int .u8 0, .int .u8 0, .int .u8 0, .int .u8 0, .int .u8 0]
theorem enc_zero : encP zeroP = Z56 := by kernel_rfl
theorem si {p : Ptr} (h : p.sha.length = 32) : (Try.prog.info? 56).map (·.size) = some (encP p).size := by rw [encP_size h]; kernel_rfl

end Go.Proofs.Ytfefpbnhpncmlaa.PtrF
namespace Go.Proofs.Ytfefpbnhpncmlaa.PtrG
open Go.RowKit Go.Proofs.Ytfefpbnhpncmlaa.B8 Go.Proofs.Ytfefpbnhpncmlaa.CodL Go.Proofs.Ytfefpbnhpncmlaa.CodA Go.Proofs.Ytfefpbnhpncmlaa.CodB Go.Proofs.Ytfefpbnhpncmlaa.CatL Go.Proofs.Ytfefpbnhpncmlaa.PtrA Go.Proofs.Ytfefpbnhpncmlaa.PtrB Go.Proofs.Ytfefpbnhpncmlaa.PtrE Go.Proofs.Ytfefpbnhpncmlaa.PtrF Go.Proofs.Ytfefpbnhpncmlaa.PBaseSigns Go.Proofs.YtfefpbnhpncmlaaW.PrintWords Go.Proofs.YtfefpbnhpncmlaaW.PrintLast Go.Proofs.YtfefpbnhpncmlaaW.PrintMore
set_option linter.unusedVariables false
set_option linter.unusedSimpArgs false

end Go.Proofs.Ytfefpbnhpncmlaa.PtrG
namespace Go.Proofs.Ytfefpbnhpncmlaa.RefA
open Go.RowKit Go.Proofs.Ytfefpbnhpncmlaa.B8 Go.Proofs.Ytfefpbnhpncmlaa.CodL Go.Proofs.Ytfefpbnhpncmlaa.CodA Go.Proofs.Ytfefpbnhpncmlaa.CodB Go.Proofs.Ytfefpbnhpncmlaa.PBaseSigns Go.Proofs.YtfefpbnhpncmlaaW.PrintWords Go.Proofs.YtfefpbnhpncmlaaW.PrintLast Go.Proofs.YtfefpbnhpncmlaaW.PrintMore
attribute [local go_sem] max2_int min2_int max_two min_two
set_option linter.unusedVariables false
set_option linter.unusedSimpArgs false

end Go.Proofs.Ytfefpbnhpncmlaa.RefA
namespace Go.Proofs.Ytfefpbnhpncmlaa.RefD
open Go.RowKit Go.Proofs.Ytfefpbnhpncmlaa.PtrG Go.Proofs.Ytfefpbnhpncmlaa.RefA Go.Proofs.Ytfefpbnhpncmlaa.B8 Go.Proofs.Ytfefpbnhpncmlaa.CodL Go.Proofs.Ytfefpbnhpncmlaa.CodA Go.Proofs.Ytfefpbnhpncmlaa.CodB Go.Proofs.Ytfefpbnhpncmlaa.CatL Go.Proofs.Ytfefpbnhpncmlaa.PtrA Go.Proofs.Ytfefpbnhpncmlaa.PtrB Go.Proofs.Ytfefpbnhpncmlaa.PtrE Go.Proofs.Ytfefpbnhpncmlaa.PtrF Go.Proofs.Ytfefpbnhpncmlaa.PBaseSigns Go.Proofs.YtfefpbnhpncmlaaW.PrintWords Go.Proofs.YtfefpbnhpncmlaaW.PrintLast Go.Proofs.YtfefpbnhpncmlaaW.PrintMore
set_option linter.unusedVariables false
set_option linter.unusedSimpArgs false

end Go.Proofs.Ytfefpbnhpncmlaa.RefD
namespace Go.Proofs.Ytfefpbnhpncmlaa.RefE
open Go.RowKit Go.Proofs.Ytfefpbnhpncmlaa.B8 Go.Proofs.Ytfefpbnhpncmlaa.CodL Go.Proofs.Ytfefpbnhpncmlaa.CodA Go.Proofs.Ytfefpbnhpncmlaa.CodB Go.Proofs.Ytfefpbnhpncmlaa.CatL Go.Proofs.Ytfefpbnhpncmlaa.PtrA Go.Proofs.Ytfefpbnhpncmlaa.PtrB Go.Proofs.Ytfefpbnhpncmlaa.PtrE Go.Proofs.Ytfefpbnhpncmlaa.PtrF Go.Proofs.Ytfefpbnhpncmlaa.PBaseSigns Go.Proofs.YtfefpbnhpncmlaaW.PrintWords Go.Proofs.YtfefpbnhpncmlaaW.PrintLast Go.Proofs.YtfefpbnhpncmlaaW.PrintMore
set_option linter.unusedVariables false
set_option linter.unusedSimpArgs false

end Go.Proofs.Ytfefpbnhpncmlaa.RefE
namespace Go.Proofs.Ytfefpbnhpncmlaa.PtrH
open Go.RowKit Go.Proofs.Ytfefpbnhpncmlaa.B8 Go.Proofs.Ytfefpbnhpncmlaa.CodL Go.Proofs.Ytfefpbnhpncmlaa.CodA Go.Proofs.Ytfefpbnhpncmlaa.CodB Go.Proofs.Ytfefpbnhpncmlaa.CatL Go.Proofs.Ytfefpbnhpncmlaa.PtrA Go.Proofs.Ytfefpbnhpncmlaa.PtrB Go.Proofs.Ytfefpbnhpncmlaa.PtrE Go.Proofs.Ytfefpbnhpncmlaa.PtrF Go.Proofs.Ytfefpbnhpncmlaa.PBaseSigns Go.Proofs.YtfefpbnhpncmlaaW.PrintWords Go.Proofs.YtfefpbnhpncmlaaW.PrintLast Go.Proofs.YtfefpbnhpncmlaaW.PrintMore
set_option linter.unusedVariables false
set_option linter.unusedSimpArgs false

end Go.Proofs.Ytfefpbnhpncmlaa.PtrH
namespace Go.Proofs.Ytfefpbnhpncmlaa.Agg
open Go.RowKit
set_option linter.unusedVariables false
variable {P : Program}

theorem heap_new (w : World) (o : Obj) : (w.alloc o).heap[w.heap.size]? = some o := heap_alloc_last w o

section
variable {fn : Func} {w : World} {g : Nat} {t ty p q : Nat} {cs : Array Value} {fr : Nat × Nat} {d : TypeDesc} (tmps : Array Value)
end
end Go.Proofs.Ytfefpbnhpncmlaa.Agg
namespace Go.Proofs.Ytfefpbnhpncmlaa.PtrI
open Go.RowKit Go.Proofs.Ytfefpbnhpncmlaa.Agg Go.Proofs.Ytfefpbnhpncmlaa.PtrH Go.Proofs.Ytfefpbnhpncmlaa.B8 Go.Proofs.Ytfefpbnhpncmlaa.CodL Go.Proofs.Ytfefpbnhpncmlaa.CodA Go.Proofs.Ytfefpbnhpncmlaa.CodB Go.Proofs.Ytfefpbnhpncmlaa.CatL Go.Proofs.Ytfefpbnhpncmlaa.PtrA Go.Proofs.Ytfefpbnhpncmlaa.PtrB Go.Proofs.Ytfefpbnhpncmlaa.PtrE Go.Proofs.Ytfefpbnhpncmlaa.PtrF Go.Proofs.Ytfefpbnhpncmlaa.PBaseSigns Go.Proofs.YtfefpbnhpncmlaaW.PrintWords Go.Proofs.YtfefpbnhpncmlaaW.PrintLast Go.Proofs.YtfefpbnhpncmlaaW.PrintMore
set_option linter.unusedVariables false
set_option linter.unusedSimpArgs false

end Go.Proofs.Ytfefpbnhpncmlaa.PtrI
namespace Go.Proofs.Ytfefpbnhpncmlaa.PtrK
open Go.RowKit Go.Proofs.Ytfefpbnhpncmlaa.CodL Go.Proofs.Ytfefpbnhpncmlaa.CatL Go.Proofs.Ytfefpbnhpncmlaa.PtrE Go.Proofs.Ytfefpbnhpncmlaa.PtrF

end Go.Proofs.Ytfefpbnhpncmlaa.PtrK
namespace Go.Proofs.Ytfefpbnhpncmlaa.PtrJ
open Go.RowKit Go.Proofs.Ytfefpbnhpncmlaa.PtrK Go.Proofs.Ytfefpbnhpncmlaa.PtrI Go.Proofs.Ytfefpbnhpncmlaa.Agg Go.Proofs.Ytfefpbnhpncmlaa.PtrH Go.Proofs.Ytfefpbnhpncmlaa.B8 Go.Proofs.Ytfefpbnhpncmlaa.CodL Go.Proofs.Ytfefpbnhpncmlaa.CodA Go.Proofs.Ytfefpbnhpncmlaa.CodB Go.Proofs.Ytfefpbnhpncmlaa.CatL Go.Proofs.Ytfefpbnhpncmlaa.PtrA Go.Proofs.Ytfefpbnhpncmlaa.PtrB Go.Proofs.Ytfefpbnhpncmlaa.PtrE Go.Proofs.Ytfefpbnhpncmlaa.PtrF Go.Proofs.Ytfefpbnhpncmlaa.PBaseSigns Go.Proofs.YtfefpbnhpncmlaaW.PrintWords Go.Proofs.YtfefpbnhpncmlaaW.PrintLast Go.Proofs.YtfefpbnhpncmlaaW.PrintMore
set_option linter.unusedVariables false
set_option linter.unusedSimpArgs false

theorem a_enc (q : Ptr) : (encP q).all (·.oneCell') = true := by
  rw [Array.all_eq_true]
  intro i hi
  simp only [encP] at hi ⊢
  rw [Array.getElem_append]
  split
  · rename_i h
    simp at h
    have : i = 0 ∨ i = 1 ∨ i = 2 ∨ i = 3 := by omega
    rcases this with rfl | rfl | rfl | rfl <;> rfl
  · simp [Value.oneCell']

end Go.Proofs.Ytfefpbnhpncmlaa.PtrJ
namespace Go.Proofs.Ytfefpbnhpncmlaa.PtrL
open Go.RowKit Go.Proofs.Ytfefpbnhpncmlaa.PtrI Go.Proofs.Ytfefpbnhpncmlaa.PtrJ Go.Proofs.Ytfefpbnhpncmlaa.Agg Go.Proofs.Ytfefpbnhpncmlaa.PtrH Go.Proofs.Ytfefpbnhpncmlaa.B8 Go.Proofs.Ytfefpbnhpncmlaa.CodL Go.Proofs.Ytfefpbnhpncmlaa.CodA Go.Proofs.Ytfefpbnhpncmlaa.CodB Go.Proofs.Ytfefpbnhpncmlaa.CatL Go.Proofs.Ytfefpbnhpncmlaa.PtrA Go.Proofs.Ytfefpbnhpncmlaa.PtrB Go.Proofs.Ytfefpbnhpncmlaa.PtrE Go.Proofs.Ytfefpbnhpncmlaa.PtrF Go.Proofs.Ytfefpbnhpncmlaa.PBaseSigns Go.Proofs.YtfefpbnhpncmlaaW.PrintWords Go.Proofs.YtfefpbnhpncmlaaW.PrintLast Go.Proofs.YtfefpbnhpncmlaaW.PrintMore
set_option linter.unusedVariables false
set_option linter.unusedSimpArgs false

end Go.Proofs.Ytfefpbnhpncmlaa.PtrL
namespace Go.Proofs.Ytfefpbnhpncmlaa.RefF
open Go.RowKit Go.Proofs.Ytfefpbnhpncmlaa.Agg Go.Proofs.Ytfefpbnhpncmlaa.PtrH Go.Proofs.Ytfefpbnhpncmlaa.B8 Go.Proofs.Ytfefpbnhpncmlaa.CodL Go.Proofs.Ytfefpbnhpncmlaa.CodA Go.Proofs.Ytfefpbnhpncmlaa.CodB Go.Proofs.Ytfefpbnhpncmlaa.CatL Go.Proofs.Ytfefpbnhpncmlaa.PtrA Go.Proofs.Ytfefpbnhpncmlaa.PtrB Go.Proofs.Ytfefpbnhpncmlaa.PtrE Go.Proofs.Ytfefpbnhpncmlaa.PtrF Go.Proofs.Ytfefpbnhpncmlaa.PBaseSigns Go.Proofs.YtfefpbnhpncmlaaW.PrintWords Go.Proofs.YtfefpbnhpncmlaaW.PrintLast Go.Proofs.YtfefpbnhpncmlaaW.PrintMore
set_option linter.unusedVariables false
set_option linter.unusedSimpArgs false

end Go.Proofs.Ytfefpbnhpncmlaa.RefF
namespace Go.Proofs.Ytfefpbnhpncmlaa.RefB
open Go.RowKit Go.Proofs.Ytfefpbnhpncmlaa.B8 Go.Proofs.Ytfefpbnhpncmlaa.CodL Go.Proofs.Ytfefpbnhpncmlaa.CodA Go.Proofs.Ytfefpbnhpncmlaa.CodB Go.Proofs.Ytfefpbnhpncmlaa.PBaseSigns Go.Proofs.YtfefpbnhpncmlaaW.PrintWords Go.Proofs.YtfefpbnhpncmlaaW.PrintLast Go.Proofs.YtfefpbnhpncmlaaW.PrintMore
attribute [local go_sem] max2_int min2_int max_two min_two
set_option linter.unusedVariables false
set_option linter.unusedSimpArgs false

end Go.Proofs.Ytfefpbnhpncmlaa.RefB
namespace Go.Proofs.Ytfefpbnhpncmlaa.RefC
open Go.RowKit Go.Proofs.Ytfefpbnhpncmlaa.B8 Go.Proofs.Ytfefpbnhpncmlaa.CodL Go.Proofs.Ytfefpbnhpncmlaa.CodA Go.Proofs.Ytfefpbnhpncmlaa.CodB Go.Proofs.Ytfefpbnhpncmlaa.PBaseSigns Go.Proofs.YtfefpbnhpncmlaaW.PrintWords Go.Proofs.YtfefpbnhpncmlaaW.PrintLast Go.Proofs.YtfefpbnhpncmlaaW.PrintMore
attribute [local go_sem] max2_int min2_int max_two min_two
set_option linter.unusedVariables false
set_option linter.unusedSimpArgs false

end Go.Proofs.Ytfefpbnhpncmlaa.RefC
namespace Go.Proofs.Ytfefpbnhpncmlaa.RefG
open Go.RowKit Go.Proofs.Ytfefpbnhpncmlaa.Agg Go.Proofs.Ytfefpbnhpncmlaa.PtrH Go.Proofs.Ytfefpbnhpncmlaa.B8 Go.Proofs.Ytfefpbnhpncmlaa.CodL Go.Proofs.Ytfefpbnhpncmlaa.CodA Go.Proofs.Ytfefpbnhpncmlaa.CodB Go.Proofs.Ytfefpbnhpncmlaa.CatL Go.Proofs.Ytfefpbnhpncmlaa.PtrA Go.Proofs.Ytfefpbnhpncmlaa.PtrB Go.Proofs.Ytfefpbnhpncmlaa.PtrE Go.Proofs.Ytfefpbnhpncmlaa.PtrF Go.Proofs.Ytfefpbnhpncmlaa.PBaseSigns Go.Proofs.YtfefpbnhpncmlaaW.PrintWords Go.Proofs.YtfefpbnhpncmlaaW.PrintLast Go.Proofs.YtfefpbnhpncmlaaW.PrintMore
set_option linter.unusedVariables false
set_option linter.unusedSimpArgs false

end Go.Proofs.Ytfefpbnhpncmlaa.RefG
namespace Go.Proofs.Ytfefpbnhpncmlaa.PtrC
open Go.RowKit Go.Proofs.Ytfefpbnhpncmlaa.B8 Go.Proofs.Ytfefpbnhpncmlaa.CodL Go.Proofs.Ytfefpbnhpncmlaa.CatL Go.Proofs.Ytfefpbnhpncmlaa.PtrA Go.Proofs.Ytfefpbnhpncmlaa.PtrB Go.Proofs.Ytfefpbnhpncmlaa.PBaseSigns Go.Proofs.YtfefpbnhpncmlaaW.PrintWords Go.Proofs.YtfefpbnhpncmlaaW.PrintLast Go.Proofs.YtfefpbnhpncmlaaW.PrintMore
set_option linter.unusedVariables false
set_option linter.unusedSimpArgs false


end Go.Proofs.Ytfefpbnhpncmlaa.PtrC
namespace Go.Proofs.Ytfefpbnhpncmlaa.RefH
open Go.RowKit Go.Proofs.Ytfefpbnhpncmlaa.RefG Go.Proofs.Ytfefpbnhpncmlaa.Agg Go.Proofs.Ytfefpbnhpncmlaa.PtrH Go.Proofs.Ytfefpbnhpncmlaa.B8 Go.Proofs.Ytfefpbnhpncmlaa.CodL Go.Proofs.Ytfefpbnhpncmlaa.CodA Go.Proofs.Ytfefpbnhpncmlaa.CodB Go.Proofs.Ytfefpbnhpncmlaa.CatL Go.Proofs.Ytfefpbnhpncmlaa.PtrA Go.Proofs.Ytfefpbnhpncmlaa.PtrB Go.Proofs.Ytfefpbnhpncmlaa.PtrE Go.Proofs.Ytfefpbnhpncmlaa.PtrF Go.Proofs.Ytfefpbnhpncmlaa.PBaseSigns Go.Proofs.YtfefpbnhpncmlaaW.PrintWords Go.Proofs.YtfefpbnhpncmlaaW.PrintLast Go.Proofs.YtfefpbnhpncmlaaW.PrintMore
set_option linter.unusedVariables false
set_option linter.unusedSimpArgs false

end Go.Proofs.Ytfefpbnhpncmlaa.RefH
namespace Go.Proofs.Ytfefpbnhpncmlaa.RefI
open Go.RowKit Go.Proofs.Ytfefpbnhpncmlaa.B8 Go.Proofs.Ytfefpbnhpncmlaa.CodL Go.Proofs.Ytfefpbnhpncmlaa.CodA Go.Proofs.Ytfefpbnhpncmlaa.CodB Go.Proofs.Ytfefpbnhpncmlaa.CodC Go.Proofs.Ytfefpbnhpncmlaa.PBaseSigns Go.Proofs.YtfefpbnhpncmlaaW.PrintWords Go.Proofs.YtfefpbnhpncmlaaW.PrintLast Go.Proofs.YtfefpbnhpncmlaaW.PrintMore
attribute [local go_sem] max2_int min2_int max_two min_two
set_option linter.unusedVariables false
set_option linter.unusedSimpArgs false

end Go.Proofs.Ytfefpbnhpncmlaa.RefI
namespace Go.Proofs.Ytfefpbnhpncmlaa.CatS
open Go.RowKit Go.Proofs.Ytfefpbnhpncmlaa.B8 Go.Proofs.Ytfefpbnhpncmlaa.CodL Go.Proofs.Ytfefpbnhpncmlaa.CodA Go.Proofs.Ytfefpbnhpncmlaa.CodB Go.Proofs.Ytfefpbnhpncmlaa.PBaseSigns Go.Proofs.YtfefpbnhpncmlaaW.PrintWords Go.Proofs.YtfefpbnhpncmlaaW.PrintLast Go.Proofs.YtfefpbnhpncmlaaW.PrintMore
attribute [local go_sem] max2_int min2_int max_two min_two
set_option linter.unusedVariables false
set_option linter.unusedSimpArgs false

end Go.Proofs.Ytfefpbnhpncmlaa.CatS
namespace Go.Proofs.Ytfefpbnhpncmlaa.CatK
open Go.RowKit Go.Proofs.Ytfefpbnhpncmlaa.PtrB Go.Proofs.Ytfefpbnhpncmlaa.Agg Go.Proofs.Ytfefpbnhpncmlaa.B8 Go.Proofs.Ytfefpbnhpncmlaa.CodL Go.Proofs.Ytfefpbnhpncmlaa.CodA Go.Proofs.Ytfefpbnhpncmlaa.CodB Go.Proofs.Ytfefpbnhpncmlaa.CatL Go.Proofs.Ytfefpbnhpncmlaa.PtrA Go.Proofs.Ytfefpbnhpncmlaa.PtrE Go.Proofs.Ytfefpbnhpncmlaa.PtrF Go.Proofs.Ytfefpbnhpncmlaa.PBaseSigns Go.Proofs.YtfefpbnhpncmlaaW.PrintWords Go.Proofs.YtfefpbnhpncmlaaW.PrintLast Go.Proofs.YtfefpbnhpncmlaaW.PrintMore
set_option linter.unusedVariables false
set_option linter.unusedSimpArgs false

theorem enc_len {p : Ptr} (h : Ok p) : (encP p).toList.length = 36 := by rw [Array.length_toList, encP_size h.len]
theorem enc_one (p : Ptr) : ∀ u ∈ (encP p).toList, u.oneCell' = true := fun u hu => (Array.all_eq_true_iff_forall_mem.1 (PtrJ.a_enc p)) u (by simpa using hu)
/-- A pointer, as a kind. -/
def kP : Kd Ptr where
  sz := 36
  E := []
  K := fun _ p cs => cs = (encP p).toList ∧ Ok p
  M := fun _ _ _ p cs => cs = (encP p).toList ∧ Ok p
  K_len := fun h => by rw [h.1]; exact enc_len h.2
  K_one := fun h u hu => by rw [h.1] at hu; exact enc_one _ u hu
  K_below := fun _ h => h
  K_of_M := fun h => h
  M_mono := fun _ h => h
  M_bound := fun h => h
  M_move := fun _ h => h
  M_lower := fun _ h => h

/-- Where a row of pointers lies. -/
theorem CP_at {w : World} {A : Option Addr} {n : Nat} {l : List Ptr} (h : Kd.C kP w A n l) (h0 : 0 < n) :
    ∃ b off, A = some ⟨b, off, none⟩ ∧ b < w.heap.size ∧ ∀ i, i < n → Ok (l.getD i zeroP) ∧ w.rangeAt b (off + i * 36) (encP (l.getD i zeroP)).toList := by
  have each : ∀ i, i < n → ∃ ad, A = some ad ∧ Ok (l.getD i zeroP) ∧ ∀ j u, (encP (l.getD i zeroP)).toList[j]? = some u → w.cell? (ad.add (i * 36 + j)) = some u := by
    intro i hi
    obtain ⟨ad, c, e, _, hk, hj⟩ := Kd.C_get h zeroP (i : Int) (by omega) (by omega)
    rw [Int.toNat_natCast] at hk hj
    obtain ⟨rfl, ho⟩ := hk
    exact ⟨ad, e, ho, fun j u hu => hj j u hu⟩
  obtain ⟨ad, e, ho, hc⟩ := each 0 h0
  have g0 := hc 0 _ (by simp [encP]; rfl)
  have hs : ad.spot = none := by
    have := World.cell?_spot g0
    rwa [show ad.add (0 * 36 + 0) = ad from rfl] at this
  obtain ⟨b, off, s⟩ := ad
  simp only at hs
  subst hs
  refine ⟨b, off, e, World.block_lt_of_cell? w _ g0, fun i hi => ?_⟩
  obtain ⟨ad', e', ho', hc'⟩ := each i hi
  rw [e] at e'
  injection e' with e'
  subst e'
  refine ⟨ho', fun j u hu => ?_⟩
  have := hc' j u hu
  rwa [show (⟨b, off, none⟩ : Addr).add (i * 36 + j) = ⟨b, off + i * 36 + j, none⟩ from by rw [add_at]; simp [Nat.add_assoc]] at this

theorem rangeAt_below {w w1 : World} {b o B : Nat} {cs : List Value} (h : w.rangeAt b o cs) (hb : Below B w w1) (hB : b < B) : w1.rangeAt b o cs := fun j v hv => (hb.cell (p := ⟨b, o + j, none⟩) hB).trans (h j v hv)

section
variable {ops : Array Oper} {o : Oper} {rest : List Oper} {a : Act} {w : World} {Q : Exit → Act → World → Prop}
/-- A pointer is loaded out of a row. -/
theorem load_P (hgd : o.guard = none) (x : Operand) (ho : o.op = .load 56 x) (b off : Nat) (p : Ptr) (hx : a.eval x = .pointer (some ⟨b, off, none⟩)) (hk : Ok p) (hc : w.rangeAt b off (encP p).toList)
    (h : wpList Try.prog ops Q rest (a.put o.dst (.agg (encP p))) w) : wpList Try.prog ops Q (o :: rest) a w := by
  refine wpList_load_mid hgd 56 x ho b off hx (encP p).toList _ hc Try.underlying56 rfl (by rw [enc_len hk]; kernel_rfl) ?_
  simpa using h
/-- A pointer is loaded out of a block of its own. -/
theorem load_P1 (hgd : o.guard = none) (x : Operand) (ho : o.op = .load 56 x) (g : Nat) (p : Ptr) (hx : a.eval x = .pointer (some ⟨g, 0, none⟩)) (hk : Ok p) (hg : w.heap[g]? = some (.cells (encP p) 56 (0, 0)))
    (h : wpList Try.prog ops Q rest (a.put o.dst (.agg (encP p))) w) : wpList Try.prog ops Q (o :: rest) a w :=
  wpList_load_row hgd 56 x ho g hx 56 (encP p) (0, 0) _ hg Try.underlying56 rfl (si hk.len) h
/-- A pointer is laid in a new block. -/
theorem store_P (hgd : o.guard = none) (x y : Operand) (ho : o.op = .store 56 x y) (p : Ptr) (hx : a.eval x = .pointer (some ⟨w.heap.size, 0, none⟩)) (hy : a.eval y = .agg (encP p)) (hk : Ok p)
    (h : wpList Try.prog ops Q rest (a.put o.dst undef) (w.alloc (.cells (encP p) 56))) : wpList Try.prog ops Q (o :: rest) a (w.alloc (.cells Z56 56)) := by
  refine wpList_store_row hgd 56 x y ho w.heap.size (encP p) hx hy 56 Z56 (heap_new _ _) (si hk.len) (by rw [encP_size hk.len]; rfl) (PtrJ.a_enc p) ?_
  rw [World.setRow_alloc_new]
  exact h
end

end Go.Proofs.Ytfefpbnhpncmlaa.CatK
namespace Go.Proofs.Ytfefpbnhpncmlaa.CatM
open Go.RowKit Go.Proofs.Ytfefpbnhpncmlaa.CatK Go.Proofs.Ytfefpbnhpncmlaa.PtrB Go.Proofs.Ytfefpbnhpncmlaa.Agg Go.Proofs.Ytfefpbnhpncmlaa.B8 Go.Proofs.Ytfefpbnhpncmlaa.CodL Go.Proofs.Ytfefpbnhpncmlaa.CodA Go.Proofs.Ytfefpbnhpncmlaa.CodB Go.Proofs.Ytfefpbnhpncmlaa.CatL Go.Proofs.Ytfefpbnhpncmlaa.PtrA Go.Proofs.Ytfefpbnhpncmlaa.PtrE Go.Proofs.Ytfefpbnhpncmlaa.PtrF Go.Proofs.Ytfefpbnhpncmlaa.PBaseSigns Go.Proofs.YtfefpbnhpncmlaaW.PrintWords Go.Proofs.YtfefpbnhpncmlaaW.PrintLast Go.Proofs.YtfefpbnhpncmlaaW.PrintMore
set_option linter.unusedVariables false
set_option linter.unusedSimpArgs false

end Go.Proofs.Ytfefpbnhpncmlaa.CatM
namespace Go.Proofs.Ytfefpbnhpncmlaa.CatN
open Go.RowKit Go.Proofs.Ytfefpbnhpncmlaa.CatM Go.Proofs.Ytfefpbnhpncmlaa.CatK Go.Proofs.Ytfefpbnhpncmlaa.CatS Go.Proofs.Ytfefpbnhpncmlaa.PtrB Go.Proofs.Ytfefpbnhpncmlaa.Agg Go.Proofs.Ytfefpbnhpncmlaa.B8 Go.Proofs.Ytfefpbnhpncmlaa.CodL Go.Proofs.Ytfefpbnhpncmlaa.CodA Go.Proofs.Ytfefpbnhpncmlaa.CodB Go.Proofs.Ytfefpbnhpncmlaa.CatL Go.Proofs.Ytfefpbnhpncmlaa.PtrA Go.Proofs.Ytfefpbnhpncmlaa.PtrE Go.Proofs.Ytfefpbnhpncmlaa.PtrF Go.Proofs.Ytfefpbnhpncmlaa.PtrG Go.Proofs.Ytfefpbnhpncmlaa.PBaseSigns Go.Proofs.YtfefpbnhpncmlaaW.PrintWords Go.Proofs.YtfefpbnhpncmlaaW.PrintLast Go.Proofs.YtfefpbnhpncmlaaW.PrintMore
set_option linter.unusedVariables false
set_option linter.unusedSimpArgs false

end Go.Proofs.Ytfefpbnhpncmlaa.CatN
namespace Go.Proofs.Ytfefpbnhpncmlaa.CatO
open Go.RowKit Go.Proofs.Ytfefpbnhpncmlaa.CatN Go.Proofs.Ytfefpbnhpncmlaa.CatM Go.Proofs.Ytfefpbnhpncmlaa.CatK Go.Proofs.Ytfefpbnhpncmlaa.CatS Go.Proofs.Ytfefpbnhpncmlaa.PtrB Go.Proofs.Ytfefpbnhpncmlaa.Agg Go.Proofs.Ytfefpbnhpncmlaa.B8 Go.Proofs.Ytfefpbnhpncmlaa.CodL Go.Proofs.Ytfefpbnhpncmlaa.CodA Go.Proofs.Ytfefpbnhpncmlaa.CodB Go.Proofs.Ytfefpbnhpncmlaa.CatL Go.Proofs.Ytfefpbnhpncmlaa.PtrA Go.Proofs.Ytfefpbnhpncmlaa.PtrE Go.Proofs.Ytfefpbnhpncmlaa.PtrF Go.Proofs.Ytfefpbnhpncmlaa.PtrG Go.Proofs.Ytfefpbnhpncmlaa.PBaseSigns Go.Proofs.YtfefpbnhpncmlaaW.PrintWords Go.Proofs.YtfefpbnhpncmlaaW.PrintLast Go.Proofs.YtfefpbnhpncmlaaW.PrintMore
set_option linter.unusedVariables false
set_option linter.unusedSimpArgs false

end Go.Proofs.Ytfefpbnhpncmlaa.CatO
namespace Go.Proofs.Ytfefpbnhpncmlaa.CatR
open Go.RowKit Go.Proofs.Ytfefpbnhpncmlaa.CatK Go.Proofs.Ytfefpbnhpncmlaa.PtrB Go.Proofs.Ytfefpbnhpncmlaa.Agg Go.Proofs.Ytfefpbnhpncmlaa.B8 Go.Proofs.Ytfefpbnhpncmlaa.CodL Go.Proofs.Ytfefpbnhpncmlaa.CodA Go.Proofs.Ytfefpbnhpncmlaa.CodB Go.Proofs.Ytfefpbnhpncmlaa.CatL Go.Proofs.Ytfefpbnhpncmlaa.PtrA Go.Proofs.Ytfefpbnhpncmlaa.PtrE Go.Proofs.Ytfefpbnhpncmlaa.PtrF Go.Proofs.Ytfefpbnhpncmlaa.PBaseSigns Go.Proofs.YtfefpbnhpncmlaaW.PrintWords Go.Proofs.YtfefpbnhpncmlaaW.PrintLast Go.Proofs.YtfefpbnhpncmlaaW.PrintMore
set_option linter.unusedVariables false
set_option linter.unusedSimpArgs false

end Go.Proofs.Ytfefpbnhpncmlaa.CatR
namespace Go.Proofs.Ytfefpbnhpncmlaa.CatT
open Go.RowKit Go.Proofs.Ytfefpbnhpncmlaa.CatR Go.Proofs.Ytfefpbnhpncmlaa.CatK Go.Proofs.Ytfefpbnhpncmlaa.PtrB Go.Proofs.Ytfefpbnhpncmlaa.Agg Go.Proofs.Ytfefpbnhpncmlaa.B8 Go.Proofs.Ytfefpbnhpncmlaa.CodL Go.Proofs.Ytfefpbnhpncmlaa.CodA Go.Proofs.Ytfefpbnhpncmlaa.CodB Go.Proofs.Ytfefpbnhpncmlaa.CatL Go.Proofs.Ytfefpbnhpncmlaa.PtrA Go.Proofs.Ytfefpbnhpncmlaa.PtrE Go.Proofs.Ytfefpbnhpncmlaa.PtrF Go.Proofs.Ytfefpbnhpncmlaa.PBaseSigns Go.Proofs.YtfefpbnhpncmlaaW.PrintWords Go.Proofs.YtfefpbnhpncmlaaW.PrintLast Go.Proofs.YtfefpbnhpncmlaaW.PrintMore
set_option linter.unusedVariables false
set_option linter.unusedSimpArgs false

end Go.Proofs.Ytfefpbnhpncmlaa.CatT
namespace Go.Proofs.Ytfefpbnhpncmlaa.CatU
open Go.RowKit Go.Proofs.Ytfefpbnhpncmlaa.CatT Go.Proofs.Ytfefpbnhpncmlaa.CatR Go.Proofs.Ytfefpbnhpncmlaa.CatK Go.Proofs.Ytfefpbnhpncmlaa.PtrB Go.Proofs.Ytfefpbnhpncmlaa.Agg Go.Proofs.Ytfefpbnhpncmlaa.B8 Go.Proofs.Ytfefpbnhpncmlaa.CodL Go.Proofs.Ytfefpbnhpncmlaa.CodA Go.Proofs.Ytfefpbnhpncmlaa.CodB Go.Proofs.Ytfefpbnhpncmlaa.CatL Go.Proofs.Ytfefpbnhpncmlaa.PtrA Go.Proofs.Ytfefpbnhpncmlaa.PtrE Go.Proofs.Ytfefpbnhpncmlaa.PtrF Go.Proofs.Ytfefpbnhpncmlaa.PBaseSigns Go.Proofs.YtfefpbnhpncmlaaW.PrintWords Go.Proofs.YtfefpbnhpncmlaaW.PrintLast Go.Proofs.YtfefpbnhpncmlaaW.PrintMore
set_option linter.unusedVariables false
set_option linter.unusedSimpArgs false

end Go.Proofs.Ytfefpbnhpncmlaa.CatU
namespace Go.Proofs.Ytfefpbnhpncmlaa.CatW
open Go.RowKit Go.Proofs.Ytfefpbnhpncmlaa.CatK Go.Proofs.Ytfefpbnhpncmlaa.Agg Go.Proofs.Ytfefpbnhpncmlaa.B8 Go.Proofs.Ytfefpbnhpncmlaa.CatL Go.Proofs.Ytfefpbnhpncmlaa.PtrE Go.Proofs.Ytfefpbnhpncmlaa.PtrF Go.Proofs.YtfefpbnhpncmlaaW.PrintWords
set_option linter.unusedVariables false
set_option linter.unusedSimpArgs false

theorem info56 : (Try.prog.info? 56).map (fun i => (i.zero, i.size, i.bytes)) = some (some (.agg Z56), 36, 64) := by kernel_rfl
set_option maxRecDepth 100000 in
theorem run_one36 (cs : Array Value) (h : cs.size = 36) (W : World) : (Instr.buildSlice 38 1 #[(0, .agg cs)]).run Try.prog W = .ok (.slice (some ⟨W.heap.size, 0, none⟩) 1 1) (W.alloc (.cells cs 56)) := by
  rcases cs with ⟨l⟩
  rcases l with _ | ⟨c0, l⟩; · simp at h
  rcases l with _ | ⟨c1, l⟩; · simp at h
  rcases l with _ | ⟨c2, l⟩; · simp at h
  rcases l with _ | ⟨c3, l⟩; · simp at h
  rcases l with _ | ⟨c4, l⟩; · simp at h
  rcases l with _ | ⟨c5, l⟩; · simp at h
  rcases l with _ | ⟨c6, l⟩; · simp at h
  rcases l with _ | ⟨c7, l⟩; · simp at h
  rcases l with _ | ⟨c8, l⟩; · simp at h
  rcases l with _ | ⟨c9, l⟩; · simp at h
  rcases l with _ | ⟨c10, l⟩; · simp at h
  rcases l with _ | ⟨c11, l⟩; · simp at h
  rcases l with _ | ⟨c12, l⟩; · simp at h
  rcases l with _ | ⟨c13, l⟩; · simp at h
  rcases l with _ | ⟨c14, l⟩; · simp at h
  rcases l with _ | ⟨c15, l⟩; · simp at h
  rcases l with _ | ⟨c16, l⟩; · simp at h
  rcases l with _ | ⟨c17, l⟩; · simp at h
  rcases l with _ | ⟨c18, l⟩; · simp at h
  rcases l with _ | ⟨c19, l⟩; · simp at h
  rcases l with _ | ⟨c20, l⟩; · simp at h
  rcases l with _ | ⟨c21, l⟩; · simp at h
  rcases l with _ | ⟨c22, l⟩; · simp at h
  rcases l with _ | ⟨c23, l⟩; · simp at h
  rcases l with _ | ⟨c24, l⟩; · simp at h
  rcases l with _ | ⟨c25, l⟩; · simp at h
  rcases l with _ | ⟨c26, l⟩; · simp at h
  rcases l with _ | ⟨c27, l⟩; · simp at h
  rcases l with _ | ⟨c28, l⟩; · simp at h
  rcases l with _ | ⟨c29, l⟩; · simp at h
  rcases l with _ | ⟨c30, l⟩; · simp at h
  rcases l with _ | ⟨c31, l⟩; · simp at h
  rcases l with _ | ⟨c32, l⟩; · simp at h
  rcases l with _ | ⟨c33, l⟩; · simp at h
  rcases l with _ | ⟨c34, l⟩; · simp at h
  rcases l with _ | ⟨c35, l⟩; · simp at h
  rcases l with _ | ⟨c36, l⟩
  · kernel_rfl
  · simp at h
theorem run_oneP (p : Ptr) (h : Ok p) (W : World) : (Instr.buildSlice 38 1 #[(0, .agg (encP p))]).run Try.prog W = .ok (.slice (some ⟨W.heap.size, 0, none⟩) 1 1) (W.alloc (.cells (encP p) 56)) := run_one36 _ (encP_size h.len) W

section
variable {ops : Array Oper} {o : Oper} {rest : List Oper} {a : Act} {Q : Exit → Act → World → Prop} {K : Act → World → Prop}
/-- The box of append's one argument, of a region that draws its order -/
theorem wp_one_P {w : World} (x : Operand) (ho : o.op = .buildSlice 38 1 #[(0, x)]) (p : Ptr) (hk : Ok p) (hx : a.eval x = .agg (encP p))
    (h : K (a.put o.dst (.slice (some ⟨w.heap.size, 0, none⟩) 1 1)) (w.alloc (.cells (encP p) 56))) : o.wp Try.prog a w K Q := by
  unfold Oper.wp execOp
  have hm : (#[(0, x)] : Array (Nat × Operand)).map (fun (i, x) => (i, a.eval x)) = #[(0, .agg (encP p))] := by simp [hx]
  simp only [ho]
  rw [hm]
  simp only [Sem.run_bind, Sem.run_pure, Result.andThen_ok, run_oneP p hk w]
  exact h
theorem one_P {w : World} (hgd : o.guard = none) (x : Operand) (ho : o.op = .buildSlice 38 1 #[(0, x)]) (p : Ptr) (hk : Ok p) (hx : a.eval x = .agg (encP p))
    (h : wpList Try.prog ops Q rest (a.put o.dst (.slice (some ⟨w.heap.size, 0, none⟩) 1 1)) (w.alloc (.cells (encP p) 56))) : wpList Try.prog ops Q (o :: rest) a w :=
  wpList_plain hgd fun _ hK => wp_one_P x ho p hk hx (hK _ _ h)
end
end Go.Proofs.Ytfefpbnhpncmlaa.CatW
namespace Go.Proofs.Ytfefpbnhpncmlaa.CatV
open Go.RowKit Go.Proofs.Ytfefpbnhpncmlaa.CatW Go.Proofs.Ytfefpbnhpncmlaa.CatT Go.Proofs.Ytfefpbnhpncmlaa.CatR Go.Proofs.Ytfefpbnhpncmlaa.CatK Go.Proofs.Ytfefpbnhpncmlaa.CatM Go.Proofs.Ytfefpbnhpncmlaa.CatN Go.Proofs.Ytfefpbnhpncmlaa.PtrB Go.Proofs.Ytfefpbnhpncmlaa.Agg Go.Proofs.Ytfefpbnhpncmlaa.B8 Go.Proofs.Ytfefpbnhpncmlaa.CodL Go.Proofs.Ytfefpbnhpncmlaa.CodA Go.Proofs.Ytfefpbnhpncmlaa.CodB Go.Proofs.Ytfefpbnhpncmlaa.CatL Go.Proofs.Ytfefpbnhpncmlaa.PtrA Go.Proofs.Ytfefpbnhpncmlaa.PtrE Go.Proofs.Ytfefpbnhpncmlaa.PtrF Go.Proofs.Ytfefpbnhpncmlaa.PBaseSigns Go.Proofs.YtfefpbnhpncmlaaW.PrintWords Go.Proofs.YtfefpbnhpncmlaaW.PrintLast Go.Proofs.YtfefpbnhpncmlaaW.PrintMore
set_option linter.unusedVariables false
set_option linter.unusedSimpArgs false

theorem conv_own {w : World} {base : Nat} {v : Value} {xs : List Int} (h : R8 w base v xs) : (convert 31 9 v).run Try.prog w = .ok (.string (strOfNums xs)) w :=
  own_string (P := Try.prog) Try.underlying31 Try.underlying5 Try.underlying9 (Kd.own_of_R h)
theorem bytes_str (l : List Int) (h : Byt l) : bytesOf (strOfNums l) = l := by
  simp only [bytesOf, strOfNums, List.map_map]
  refine (List.map_congr_left (g := id) fun x hx => ?_).trans (by simp)
  have := h x hx
  simp
  omega
theorem str_iff (l m : List Int) (hl : Byt l) (hm : Byt m) : ((strOfNums l).toList == (strOfNums m).toList) = decide (l = m) := by
  by_cases h : l = m
  · subst h
    simp
  · rw [decide_eq_false h]
    have h2 : strOfNums l ≠ strOfNums m := fun e => h (by rw [← bytes_str l hl, e, bytes_str m hm])
    rw [beq_eq_false_iff_ne]
    intro e
    rw [ByteArray.toList_eq, ByteArray.toList_eq] at e
    exact h2 (ByteArray.ext (Array.toList_inj.1 e))

end Go.Proofs.Ytfefpbnhpncmlaa.CatV
namespace Go.Proofs.Ytfefpbnhpncmlaa.CatX
open Go.RowKit Go.Proofs.Ytfefpbnhpncmlaa.CatV Go.Proofs.Ytfefpbnhpncmlaa.CatW Go.Proofs.Ytfefpbnhpncmlaa.CatU Go.Proofs.Ytfefpbnhpncmlaa.CatT Go.Proofs.Ytfefpbnhpncmlaa.CatR Go.Proofs.Ytfefpbnhpncmlaa.CatK Go.Proofs.Ytfefpbnhpncmlaa.CatM Go.Proofs.Ytfefpbnhpncmlaa.CatN Go.Proofs.Ytfefpbnhpncmlaa.CatO Go.Proofs.Ytfefpbnhpncmlaa.PtrB Go.Proofs.Ytfefpbnhpncmlaa.Agg Go.Proofs.Ytfefpbnhpncmlaa.B8 Go.Proofs.Ytfefpbnhpncmlaa.CodL Go.Proofs.Ytfefpbnhpncmlaa.CodA Go.Proofs.Ytfefpbnhpncmlaa.CodB Go.Proofs.Ytfefpbnhpncmlaa.CatL Go.Proofs.Ytfefpbnhpncmlaa.PtrA Go.Proofs.Ytfefpbnhpncmlaa.PtrE Go.Proofs.Ytfefpbnhpncmlaa.PtrF Go.Proofs.Ytfefpbnhpncmlaa.PBaseSigns Go.Proofs.YtfefpbnhpncmlaaW.PrintWords Go.Proofs.YtfefpbnhpncmlaaW.PrintLast Go.Proofs.YtfefpbnhpncmlaaW.PrintMore
set_option linter.unusedVariables false
set_option linter.unusedSimpArgs false

end Go.Proofs.Ytfefpbnhpncmlaa.CatX
namespace Go.Proofs.Ytfefpbnhpncmlaa.EntL
open Go.RowKit Go.Proofs.Ytfefpbnhpncmlaa.CodL Go.Proofs.Ytfefpbnhpncmlaa.CatL Go.Proofs.Ytfefpbnhpncmlaa.PtrE Go.Proofs.Ytfefpbnhpncmlaa.CatV Go.Proofs.Ytfefpbnhpncmlaa.CatR Go.Proofs.YtfefpbnhpncmlaaW.PrintWords
set_option linter.unusedVariables false
set_option linter.unusedSimpArgs false

end Go.Proofs.Ytfefpbnhpncmlaa.EntL
namespace Go.Proofs.Ytfefpbnhpncmlaa.EntA
open Go.RowKit Go.Proofs.Ytfefpbnhpncmlaa.EntL Go.Proofs.Ytfefpbnhpncmlaa.CatK Go.Proofs.Ytfefpbnhpncmlaa.PtrB Go.Proofs.Ytfefpbnhpncmlaa.Agg Go.Proofs.Ytfefpbnhpncmlaa.B8 Go.Proofs.Ytfefpbnhpncmlaa.CodL Go.Proofs.Ytfefpbnhpncmlaa.CodA Go.Proofs.Ytfefpbnhpncmlaa.CodB Go.Proofs.Ytfefpbnhpncmlaa.CatL Go.Proofs.Ytfefpbnhpncmlaa.PtrA Go.Proofs.Ytfefpbnhpncmlaa.PtrE Go.Proofs.Ytfefpbnhpncmlaa.PtrF Go.Proofs.Ytfefpbnhpncmlaa.PBaseSigns Go.Proofs.YtfefpbnhpncmlaaW.PrintWords Go.Proofs.YtfefpbnhpncmlaaW.PrintLast Go.Proofs.YtfefpbnhpncmlaaW.PrintMore
set_option linter.unusedVariables false
set_option linter.unusedSimpArgs false

end Go.Proofs.Ytfefpbnhpncmlaa.EntA
namespace Go.Proofs.Ytfefpbnhpncmlaa.EntB
open Go.RowKit Go.Proofs.Ytfefpbnhpncmlaa.EntL Go.Proofs.Ytfefpbnhpncmlaa.EntA Go.Proofs.Ytfefpbnhpncmlaa.CatK Go.Proofs.Ytfefpbnhpncmlaa.PtrB Go.Proofs.Ytfefpbnhpncmlaa.Agg Go.Proofs.Ytfefpbnhpncmlaa.B8 Go.Proofs.Ytfefpbnhpncmlaa.CodL Go.Proofs.Ytfefpbnhpncmlaa.CodA Go.Proofs.Ytfefpbnhpncmlaa.CodB Go.Proofs.Ytfefpbnhpncmlaa.CatL Go.Proofs.Ytfefpbnhpncmlaa.PtrA Go.Proofs.Ytfefpbnhpncmlaa.PtrE Go.Proofs.Ytfefpbnhpncmlaa.PtrF Go.Proofs.Ytfefpbnhpncmlaa.PBaseSigns Go.Proofs.YtfefpbnhpncmlaaW.PrintWords Go.Proofs.YtfefpbnhpncmlaaW.PrintLast Go.Proofs.YtfefpbnhpncmlaaW.PrintMore
set_option linter.unusedVariables false
set_option linter.unusedSimpArgs false

end Go.Proofs.Ytfefpbnhpncmlaa.EntB
namespace Go.Proofs.Ytfefpbnhpncmlaa.EntC
open Go.RowKit Go.Proofs.Ytfefpbnhpncmlaa.EntL Go.Proofs.Ytfefpbnhpncmlaa.EntB Go.Proofs.Ytfefpbnhpncmlaa.CatK Go.Proofs.Ytfefpbnhpncmlaa.CatS Go.Proofs.Ytfefpbnhpncmlaa.RefG Go.Proofs.Ytfefpbnhpncmlaa.PtrB Go.Proofs.Ytfefpbnhpncmlaa.Agg Go.Proofs.Ytfefpbnhpncmlaa.B8 Go.Proofs.Ytfefpbnhpncmlaa.CodL Go.Proofs.Ytfefpbnhpncmlaa.CodA Go.Proofs.Ytfefpbnhpncmlaa.CodB Go.Proofs.Ytfefpbnhpncmlaa.CatL Go.Proofs.Ytfefpbnhpncmlaa.PtrA Go.Proofs.Ytfefpbnhpncmlaa.PtrE Go.Proofs.Ytfefpbnhpncmlaa.PtrF Go.Proofs.Ytfefpbnhpncmlaa.PBaseSigns Go.Proofs.YtfefpbnhpncmlaaW.PrintWords Go.Proofs.YtfefpbnhpncmlaaW.PrintLast Go.Proofs.YtfefpbnhpncmlaaW.PrintMore
set_option linter.unusedVariables false
set_option linter.unusedSimpArgs false

end Go.Proofs.Ytfefpbnhpncmlaa.EntC
namespace Go.Proofs.Ytfefpbnhpncmlaa.StmA
open Go.RowKit Go.Proofs.Ytfefpbnhpncmlaa.EntL Go.Proofs.Ytfefpbnhpncmlaa.EntB Go.Proofs.Ytfefpbnhpncmlaa.CatK Go.Proofs.Ytfefpbnhpncmlaa.CatS Go.Proofs.Ytfefpbnhpncmlaa.RefG Go.Proofs.Ytfefpbnhpncmlaa.PtrB Go.Proofs.Ytfefpbnhpncmlaa.Agg Go.Proofs.Ytfefpbnhpncmlaa.B8 Go.Proofs.Ytfefpbnhpncmlaa.CodL Go.Proofs.Ytfefpbnhpncmlaa.CodA Go.Proofs.Ytfefpbnhpncmlaa.CodB Go.Proofs.Ytfefpbnhpncmlaa.CatL Go.Proofs.Ytfefpbnhpncmlaa.PtrA Go.Proofs.Ytfefpbnhpncmlaa.PtrE Go.Proofs.Ytfefpbnhpncmlaa.PtrF Go.Proofs.Ytfefpbnhpncmlaa.PBaseSigns Go.Proofs.YtfefpbnhpncmlaaW.PrintWords Go.Proofs.YtfefpbnhpncmlaaW.PrintLast Go.Proofs.YtfefpbnhpncmlaaW.PrintMore Go.Proofs.Ytfefpbnhpncmlaa.EntC
set_option linter.unusedVariables false
set_option linter.unusedSimpArgs false

end Go.Proofs.Ytfefpbnhpncmlaa.StmA
namespace Go.Proofs.Ytfefpbnhpncmlaa.CatY
open Go.RowKit Go.Proofs.Ytfefpbnhpncmlaa.CatV Go.Proofs.Ytfefpbnhpncmlaa.CatW Go.Proofs.Ytfefpbnhpncmlaa.CatK Go.Proofs.Ytfefpbnhpncmlaa.CatM Go.Proofs.Ytfefpbnhpncmlaa.CatN Go.Proofs.Ytfefpbnhpncmlaa.CatO Go.Proofs.Ytfefpbnhpncmlaa.CatX Go.Proofs.Ytfefpbnhpncmlaa.PtrB Go.Proofs.Ytfefpbnhpncmlaa.Agg Go.Proofs.Ytfefpbnhpncmlaa.B8 Go.Proofs.Ytfefpbnhpncmlaa.CodL Go.Proofs.Ytfefpbnhpncmlaa.CodA Go.Proofs.Ytfefpbnhpncmlaa.CodB Go.Proofs.Ytfefpbnhpncmlaa.CatL Go.Proofs.Ytfefpbnhpncmlaa.PtrA Go.Proofs.Ytfefpbnhpncmlaa.PtrE Go.Proofs.Ytfefpbnhpncmlaa.PtrF Go.Proofs.Ytfefpbnhpncmlaa.PBaseSigns Go.Proofs.YtfefpbnhpncmlaaW.PrintWords Go.Proofs.YtfefpbnhpncmlaaW.PrintLast Go.Proofs.YtfefpbnhpncmlaaW.PrintMore
set_option linter.unusedVariables false
set_option linter.unusedSimpArgs false

theorem yieldsIf_load_P {ops : Array Oper} {S : World → Prop} {op : Oper} {a : Act} (hw : Region.wanted op (yielded ops a.tmps) = true) (x : Operand) (ho : op.op = .load 56 x)
    (b o : Nat) (p : Ptr) (hk : Ok p) (hx : a.eval x = .pointer (some ⟨b, o, none⟩)) (hS : ∀ w, S w → w.rangeAt b o (encP p).toList) : YieldsIf Try.prog ops S op (.agg (encP p)) a := by
  have := yieldsIf_load_mid (P := Try.prog) (S := S) hw 56 x ho b o hx (encP p).toList _ hS Try.underlying56 rfl (by rw [enc_len hk]; kernel_rfl)
  simpa using this

end Go.Proofs.Ytfefpbnhpncmlaa.CatY
namespace Go.Proofs.Ytfefpbnhpncmlaa.EntD
open Go.RowKit Go.Proofs.Ytfefpbnhpncmlaa.EntL Go.Proofs.Ytfefpbnhpncmlaa.EntB Go.Proofs.Ytfefpbnhpncmlaa.EntC Go.Proofs.Ytfefpbnhpncmlaa.CatK Go.Proofs.Ytfefpbnhpncmlaa.CatS Go.Proofs.Ytfefpbnhpncmlaa.CatY Go.Proofs.Ytfefpbnhpncmlaa.RefG Go.Proofs.Ytfefpbnhpncmlaa.PtrB Go.Proofs.Ytfefpbnhpncmlaa.PtrG Go.Proofs.Ytfefpbnhpncmlaa.Agg Go.Proofs.Ytfefpbnhpncmlaa.B8 Go.Proofs.Ytfefpbnhpncmlaa.CodL Go.Proofs.Ytfefpbnhpncmlaa.CodA Go.Proofs.Ytfefpbnhpncmlaa.CodB Go.Proofs.Ytfefpbnhpncmlaa.CatL Go.Proofs.Ytfefpbnhpncmlaa.PtrA Go.Proofs.Ytfefpbnhpncmlaa.PtrE Go.Proofs.Ytfefpbnhpncmlaa.PtrF Go.Proofs.Ytfefpbnhpncmlaa.PBaseSigns Go.Proofs.YtfefpbnhpncmlaaW.PrintWords Go.Proofs.YtfefpbnhpncmlaaW.PrintLast Go.Proofs.YtfefpbnhpncmlaaW.PrintMore
set_option linter.unusedVariables false
set_option linter.unusedSimpArgs false

end Go.Proofs.Ytfefpbnhpncmlaa.EntD
namespace Go.Proofs.Ytfefpbnhpncmlaa.EntE
open Go.RowKit Go.Proofs.Ytfefpbnhpncmlaa.EntL Go.Proofs.Ytfefpbnhpncmlaa.EntB Go.Proofs.Ytfefpbnhpncmlaa.EntC Go.Proofs.Ytfefpbnhpncmlaa.EntD Go.Proofs.Ytfefpbnhpncmlaa.CatK Go.Proofs.Ytfefpbnhpncmlaa.CatS Go.Proofs.Ytfefpbnhpncmlaa.CatY Go.Proofs.Ytfefpbnhpncmlaa.RefG Go.Proofs.Ytfefpbnhpncmlaa.PtrB Go.Proofs.Ytfefpbnhpncmlaa.PtrG Go.Proofs.Ytfefpbnhpncmlaa.Agg Go.Proofs.Ytfefpbnhpncmlaa.B8 Go.Proofs.Ytfefpbnhpncmlaa.CodL Go.Proofs.Ytfefpbnhpncmlaa.CodA Go.Proofs.Ytfefpbnhpncmlaa.CodB Go.Proofs.Ytfefpbnhpncmlaa.CatL Go.Proofs.Ytfefpbnhpncmlaa.PtrA Go.Proofs.Ytfefpbnhpncmlaa.PtrE Go.Proofs.Ytfefpbnhpncmlaa.PtrF Go.Proofs.Ytfefpbnhpncmlaa.PBaseSigns Go.Proofs.YtfefpbnhpncmlaaW.PrintWords Go.Proofs.YtfefpbnhpncmlaaW.PrintLast Go.Proofs.YtfefpbnhpncmlaaW.PrintMore
set_option linter.unusedVariables false
set_option linter.unusedSimpArgs false

section
variable {ops : Array Oper} {o : Oper} {rest : List Oper} {a : Act} {w : World} {Q : Exit → Act → World → Prop}
end

end Go.Proofs.Ytfefpbnhpncmlaa.EntE
namespace Go.Proofs.Ytfefpbnhpncmlaa.EntF
open Go.RowKit Go.Proofs.Ytfefpbnhpncmlaa.EntL Go.Proofs.Ytfefpbnhpncmlaa.EntB Go.Proofs.Ytfefpbnhpncmlaa.EntC Go.Proofs.Ytfefpbnhpncmlaa.EntD Go.Proofs.Ytfefpbnhpncmlaa.EntE Go.Proofs.Ytfefpbnhpncmlaa.CatR Go.Proofs.Ytfefpbnhpncmlaa.CatT Go.Proofs.Ytfefpbnhpncmlaa.CatU Go.Proofs.Ytfefpbnhpncmlaa.CatK Go.Proofs.Ytfefpbnhpncmlaa.CatS Go.Proofs.Ytfefpbnhpncmlaa.CatY Go.Proofs.Ytfefpbnhpncmlaa.RefG Go.Proofs.Ytfefpbnhpncmlaa.PtrB Go.Proofs.Ytfefpbnhpncmlaa.PtrG Go.Proofs.Ytfefpbnhpncmlaa.Agg Go.Proofs.Ytfefpbnhpncmlaa.B8 Go.Proofs.Ytfefpbnhpncmlaa.CodL Go.Proofs.Ytfefpbnhpncmlaa.CodA Go.Proofs.Ytfefpbnhpncmlaa.CodB Go.Proofs.Ytfefpbnhpncmlaa.CatL Go.Proofs.Ytfefpbnhpncmlaa.PtrA Go.Proofs.Ytfefpbnhpncmlaa.PtrE Go.Proofs.Ytfefpbnhpncmlaa.PtrF Go.Proofs.Ytfefpbnhpncmlaa.PBaseSigns Go.Proofs.YtfefpbnhpncmlaaW.PrintWords Go.Proofs.YtfefpbnhpncmlaaW.PrintLast Go.Proofs.YtfefpbnhpncmlaaW.PrintMore
set_option linter.unusedVariables false
set_option linter.unusedSimpArgs false

end Go.Proofs.Ytfefpbnhpncmlaa.EntF
namespace Go.Proofs.Ytfefpbnhpncmlaa.EntG
open Go.RowKit Go.Proofs.Ytfefpbnhpncmlaa.EntL Go.Proofs.Ytfefpbnhpncmlaa.EntB Go.Proofs.Ytfefpbnhpncmlaa.EntC Go.Proofs.Ytfefpbnhpncmlaa.EntD Go.Proofs.Ytfefpbnhpncmlaa.EntE Go.Proofs.Ytfefpbnhpncmlaa.EntF Go.Proofs.Ytfefpbnhpncmlaa.CatR Go.Proofs.Ytfefpbnhpncmlaa.CatT Go.Proofs.Ytfefpbnhpncmlaa.CatU Go.Proofs.Ytfefpbnhpncmlaa.CatK Go.Proofs.Ytfefpbnhpncmlaa.CatS Go.Proofs.Ytfefpbnhpncmlaa.CatY Go.Proofs.Ytfefpbnhpncmlaa.RefG Go.Proofs.Ytfefpbnhpncmlaa.PtrB Go.Proofs.Ytfefpbnhpncmlaa.PtrG Go.Proofs.Ytfefpbnhpncmlaa.Agg Go.Proofs.Ytfefpbnhpncmlaa.B8 Go.Proofs.Ytfefpbnhpncmlaa.CodL Go.Proofs.Ytfefpbnhpncmlaa.CodA Go.Proofs.Ytfefpbnhpncmlaa.CodB Go.Proofs.Ytfefpbnhpncmlaa.CatL Go.Proofs.Ytfefpbnhpncmlaa.PtrA Go.Proofs.Ytfefpbnhpncmlaa.PtrE Go.Proofs.Ytfefpbnhpncmlaa.PtrF Go.Proofs.Ytfefpbnhpncmlaa.PBaseSigns Go.Proofs.YtfefpbnhpncmlaaW.PrintWords Go.Proofs.YtfefpbnhpncmlaaW.PrintLast Go.Proofs.YtfefpbnhpncmlaaW.PrintMore
set_option linter.unusedVariables false
set_option linter.unusedSimpArgs false

end Go.Proofs.Ytfefpbnhpncmlaa.EntG
namespace Go.Proofs.Ytfefpbnhpncmlaa.StmB
open Go.RowKit Go.Proofs.Ytfefpbnhpncmlaa.EntL Go.Proofs.Ytfefpbnhpncmlaa.EntB Go.Proofs.Ytfefpbnhpncmlaa.EntC Go.Proofs.Ytfefpbnhpncmlaa.EntD Go.Proofs.Ytfefpbnhpncmlaa.EntE Go.Proofs.Ytfefpbnhpncmlaa.EntF Go.Proofs.Ytfefpbnhpncmlaa.CatR Go.Proofs.Ytfefpbnhpncmlaa.CatT Go.Proofs.Ytfefpbnhpncmlaa.CatU Go.Proofs.Ytfefpbnhpncmlaa.CatK Go.Proofs.Ytfefpbnhpncmlaa.CatS Go.Proofs.Ytfefpbnhpncmlaa.CatY Go.Proofs.Ytfefpbnhpncmlaa.RefG Go.Proofs.Ytfefpbnhpncmlaa.PtrB Go.Proofs.Ytfefpbnhpncmlaa.PtrG Go.Proofs.Ytfefpbnhpncmlaa.Agg Go.Proofs.Ytfefpbnhpncmlaa.B8 Go.Proofs.Ytfefpbnhpncmlaa.CodL Go.Proofs.Ytfefpbnhpncmlaa.CodA Go.Proofs.Ytfefpbnhpncmlaa.CodB Go.Proofs.Ytfefpbnhpncmlaa.CatL Go.Proofs.Ytfefpbnhpncmlaa.PtrA Go.Proofs.Ytfefpbnhpncmlaa.PtrE Go.Proofs.Ytfefpbnhpncmlaa.PtrF Go.Proofs.Ytfefpbnhpncmlaa.PBaseSigns Go.Proofs.YtfefpbnhpncmlaaW.PrintWords Go.Proofs.YtfefpbnhpncmlaaW.PrintLast Go.Proofs.YtfefpbnhpncmlaaW.PrintMore Go.Proofs.Ytfefpbnhpncmlaa.EntG Go.Proofs.Ytfefpbnhpncmlaa.StmA
set_option linter.unusedVariables false
set_option linter.unusedSimpArgs false

end Go.Proofs.Ytfefpbnhpncmlaa.StmB
namespace Go.Proofs.Ytfefpbnhpncmlaa.StmC
open Go.RowKit Go.Proofs.Ytfefpbnhpncmlaa.EntL Go.Proofs.Ytfefpbnhpncmlaa.EntB Go.Proofs.Ytfefpbnhpncmlaa.EntC Go.Proofs.Ytfefpbnhpncmlaa.EntD Go.Proofs.Ytfefpbnhpncmlaa.EntE Go.Proofs.Ytfefpbnhpncmlaa.EntF Go.Proofs.Ytfefpbnhpncmlaa.CatR Go.Proofs.Ytfefpbnhpncmlaa.CatT Go.Proofs.Ytfefpbnhpncmlaa.CatU Go.Proofs.Ytfefpbnhpncmlaa.CatK Go.Proofs.Ytfefpbnhpncmlaa.CatS Go.Proofs.Ytfefpbnhpncmlaa.CatY Go.Proofs.Ytfefpbnhpncmlaa.RefG Go.Proofs.Ytfefpbnhpncmlaa.PtrB Go.Proofs.Ytfefpbnhpncmlaa.PtrG Go.Proofs.Ytfefpbnhpncmlaa.Agg Go.Proofs.Ytfefpbnhpncmlaa.B8 Go.Proofs.Ytfefpbnhpncmlaa.CodL Go.Proofs.Ytfefpbnhpncmlaa.CodA Go.Proofs.Ytfefpbnhpncmlaa.CodB Go.Proofs.Ytfefpbnhpncmlaa.CatL Go.Proofs.Ytfefpbnhpncmlaa.PtrA Go.Proofs.Ytfefpbnhpncmlaa.PtrE Go.Proofs.Ytfefpbnhpncmlaa.PtrF Go.Proofs.Ytfefpbnhpncmlaa.PBaseSigns Go.Proofs.YtfefpbnhpncmlaaW.PrintWords Go.Proofs.YtfefpbnhpncmlaaW.PrintLast Go.Proofs.YtfefpbnhpncmlaaW.PrintMore Go.Proofs.Ytfefpbnhpncmlaa.EntG Go.Proofs.Ytfefpbnhpncmlaa.StmA Go.Proofs.Ytfefpbnhpncmlaa.StmB
set_option linter.unusedVariables false
set_option linter.unusedSimpArgs false

end Go.Proofs.Ytfefpbnhpncmlaa.StmC
namespace Go.Proofs.Ytfefpbnhpncmlaa.CrcL
open Go.Proofs.Ytfefpbnhpncmlaa.CodL
set_option linter.unusedVariables false

end Go.Proofs.Ytfefpbnhpncmlaa.CrcL
namespace Go.Proofs.Ytfefpbnhpncmlaa.CrcA
open Go.RowKit Go.Proofs.Ytfefpbnhpncmlaa.B8 Go.Proofs.Ytfefpbnhpncmlaa.CodL Go.Proofs.Ytfefpbnhpncmlaa.CodA Go.Proofs.Ytfefpbnhpncmlaa.CrcL Go.Proofs.Ytfefpbnhpncmlaa.PBaseSigns Go.Proofs.YtfefpbnhpncmlaaW.PrintWords Go.Proofs.YtfefpbnhpncmlaaW.PrintLast Go.Proofs.YtfefpbnhpncmlaaW.PrintMore
set_option linter.unusedVariables false
set_option linter.unusedSimpArgs false

end Go.Proofs.Ytfefpbnhpncmlaa.CrcA
namespace Go.Proofs.Ytfefpbnhpncmlaa.CrcB
open Go.RowKit Go.Proofs.Ytfefpbnhpncmlaa.B8 Go.Proofs.Ytfefpbnhpncmlaa.CodL Go.Proofs.Ytfefpbnhpncmlaa.CodA Go.Proofs.Ytfefpbnhpncmlaa.CodB Go.Proofs.Ytfefpbnhpncmlaa.CrcL Go.Proofs.Ytfefpbnhpncmlaa.CrcA Go.Proofs.Ytfefpbnhpncmlaa.PBaseSigns Go.Proofs.YtfefpbnhpncmlaaW.PrintWords Go.Proofs.YtfefpbnhpncmlaaW.PrintLast Go.Proofs.YtfefpbnhpncmlaaW.PrintMore
set_option linter.unusedVariables false
set_option linter.unusedSimpArgs false

end Go.Proofs.Ytfefpbnhpncmlaa.CrcB
namespace Go.Proofs.Ytfefpbnhpncmlaa.CrcC
open Go.RowKit Go.Proofs.Ytfefpbnhpncmlaa.B8 Go.Proofs.Ytfefpbnhpncmlaa.Agg Go.Proofs.Ytfefpbnhpncmlaa.CodL Go.Proofs.Ytfefpbnhpncmlaa.CodA Go.Proofs.Ytfefpbnhpncmlaa.CodB Go.Proofs.Ytfefpbnhpncmlaa.CrcL Go.Proofs.Ytfefpbnhpncmlaa.CrcA Go.Proofs.Ytfefpbnhpncmlaa.CrcB Go.Proofs.Ytfefpbnhpncmlaa.PBaseSigns Go.Proofs.YtfefpbnhpncmlaaW.PrintWords Go.Proofs.YtfefpbnhpncmlaaW.PrintLast Go.Proofs.YtfefpbnhpncmlaaW.PrintMore
set_option linter.unusedVariables false
set_option linter.unusedSimpArgs false

end Go.Proofs.Ytfefpbnhpncmlaa.CrcC
namespace Go.Proofs.Ytfefpbnhpncmlaa.StmD
open Go.RowKit Go.Proofs.Ytfefpbnhpncmlaa.EntL Go.Proofs.Ytfefpbnhpncmlaa.EntB Go.Proofs.Ytfefpbnhpncmlaa.EntC Go.Proofs.Ytfefpbnhpncmlaa.EntD Go.Proofs.Ytfefpbnhpncmlaa.EntE Go.Proofs.Ytfefpbnhpncmlaa.EntF Go.Proofs.Ytfefpbnhpncmlaa.CatR Go.Proofs.Ytfefpbnhpncmlaa.CatT Go.Proofs.Ytfefpbnhpncmlaa.CatU Go.Proofs.Ytfefpbnhpncmlaa.CatK Go.Proofs.Ytfefpbnhpncmlaa.CatS Go.Proofs.Ytfefpbnhpncmlaa.CatY Go.Proofs.Ytfefpbnhpncmlaa.RefG Go.Proofs.Ytfefpbnhpncmlaa.PtrB Go.Proofs.Ytfefpbnhpncmlaa.PtrG Go.Proofs.Ytfefpbnhpncmlaa.Agg Go.Proofs.Ytfefpbnhpncmlaa.B8 Go.Proofs.Ytfefpbnhpncmlaa.CodL Go.Proofs.Ytfefpbnhpncmlaa.CodA Go.Proofs.Ytfefpbnhpncmlaa.CodB Go.Proofs.Ytfefpbnhpncmlaa.CatL Go.Proofs.Ytfefpbnhpncmlaa.PtrA Go.Proofs.Ytfefpbnhpncmlaa.PtrE Go.Proofs.Ytfefpbnhpncmlaa.PtrF Go.Proofs.Ytfefpbnhpncmlaa.PBaseSigns Go.Proofs.YtfefpbnhpncmlaaW.PrintWords Go.Proofs.YtfefpbnhpncmlaaW.PrintLast Go.Proofs.YtfefpbnhpncmlaaW.PrintMore Go.Proofs.Ytfefpbnhpncmlaa.EntG Go.Proofs.Ytfefpbnhpncmlaa.StmA Go.Proofs.Ytfefpbnhpncmlaa.StmB Go.Proofs.Ytfefpbnhpncmlaa.StmC Go.Proofs.Ytfefpbnhpncmlaa.CrcC
set_option linter.unusedVariables false
set_option linter.unusedSimpArgs false

end Go.Proofs.Ytfefpbnhpncmlaa.StmD
namespace Go.Proofs.Ytfefpbnhpncmlaa.StmE
open Go.RowKit Go.Proofs.Ytfefpbnhpncmlaa.EntL Go.Proofs.Ytfefpbnhpncmlaa.EntB Go.Proofs.Ytfefpbnhpncmlaa.EntC Go.Proofs.Ytfefpbnhpncmlaa.EntD Go.Proofs.Ytfefpbnhpncmlaa.EntE Go.Proofs.Ytfefpbnhpncmlaa.EntF Go.Proofs.Ytfefpbnhpncmlaa.CatR Go.Proofs.Ytfefpbnhpncmlaa.CatT Go.Proofs.Ytfefpbnhpncmlaa.CatU Go.Proofs.Ytfefpbnhpncmlaa.CatK Go.Proofs.Ytfefpbnhpncmlaa.CatS Go.Proofs.Ytfefpbnhpncmlaa.CatY Go.Proofs.Ytfefpbnhpncmlaa.RefG Go.Proofs.Ytfefpbnhpncmlaa.PtrB Go.Proofs.Ytfefpbnhpncmlaa.PtrG Go.Proofs.Ytfefpbnhpncmlaa.Agg Go.Proofs.Ytfefpbnhpncmlaa.B8 Go.Proofs.Ytfefpbnhpncmlaa.CodL Go.Proofs.Ytfefpbnhpncmlaa.CodA Go.Proofs.Ytfefpbnhpncmlaa.CodB Go.Proofs.Ytfefpbnhpncmlaa.CatL Go.Proofs.Ytfefpbnhpncmlaa.PtrA Go.Proofs.Ytfefpbnhpncmlaa.PtrE Go.Proofs.Ytfefpbnhpncmlaa.PtrF Go.Proofs.Ytfefpbnhpncmlaa.PBaseSigns Go.Proofs.YtfefpbnhpncmlaaW.PrintWords Go.Proofs.YtfefpbnhpncmlaaW.PrintLast Go.Proofs.YtfefpbnhpncmlaaW.PrintMore Go.Proofs.Ytfefpbnhpncmlaa.EntG Go.Proofs.Ytfefpbnhpncmlaa.StmA Go.Proofs.Ytfefpbnhpncmlaa.StmB Go.Proofs.Ytfefpbnhpncmlaa.StmC Go.Proofs.Ytfefpbnhpncmlaa.CrcC Go.Proofs.Ytfefpbnhpncmlaa.StmD
set_option linter.unusedVariables false
set_option linter.unusedSimpArgs false

end Go.Proofs.Ytfefpbnhpncmlaa.StmE
namespace Go.Proofs.Ytfefpbnhpncmlaa.StmL
open Go.RowKit Go.Proofs.Ytfefpbnhpncmlaa.EntL Go.Proofs.Ytfefpbnhpncmlaa.EntB Go.Proofs.Ytfefpbnhpncmlaa.EntC Go.Proofs.Ytfefpbnhpncmlaa.EntD Go.Proofs.Ytfefpbnhpncmlaa.EntE Go.Proofs.Ytfefpbnhpncmlaa.EntF Go.Proofs.Ytfefpbnhpncmlaa.CatR Go.Proofs.Ytfefpbnhpncmlaa.CatT Go.Proofs.Ytfefpbnhpncmlaa.CatU Go.Proofs.Ytfefpbnhpncmlaa.CatK Go.Proofs.Ytfefpbnhpncmlaa.CatS Go.Proofs.Ytfefpbnhpncmlaa.CatY Go.Proofs.Ytfefpbnhpncmlaa.RefG Go.Proofs.Ytfefpbnhpncmlaa.PtrB Go.Proofs.Ytfefpbnhpncmlaa.PtrG Go.Proofs.Ytfefpbnhpncmlaa.Agg Go.Proofs.Ytfefpbnhpncmlaa.B8 Go.Proofs.Ytfefpbnhpncmlaa.CodL Go.Proofs.Ytfefpbnhpncmlaa.CodA Go.Proofs.Ytfefpbnhpncmlaa.CodB Go.Proofs.Ytfefpbnhpncmlaa.CatL Go.Proofs.Ytfefpbnhpncmlaa.PtrA Go.Proofs.Ytfefpbnhpncmlaa.PtrE Go.Proofs.Ytfefpbnhpncmlaa.PtrF Go.Proofs.Ytfefpbnhpncmlaa.PBaseSigns Go.Proofs.YtfefpbnhpncmlaaW.PrintWords Go.Proofs.YtfefpbnhpncmlaaW.PrintLast Go.Proofs.YtfefpbnhpncmlaaW.PrintMore Go.Proofs.Ytfefpbnhpncmlaa.EntG Go.Proofs.Ytfefpbnhpncmlaa.StmA Go.Proofs.Ytfefpbnhpncmlaa.StmB Go.Proofs.Ytfefpbnhpncmlaa.StmC Go.Proofs.Ytfefpbnhpncmlaa.CrcC Go.Proofs.Ytfefpbnhpncmlaa.StmD Go.Proofs.Ytfefpbnhpncmlaa.StmE Go.Proofs.Ytfefpbnhpncmlaa.CrcL
set_option linter.unusedVariables false
set_option linter.unusedSimpArgs false

end Go.Proofs.Ytfefpbnhpncmlaa.StmL
namespace Go.Proofs.Ytfefpbnhpncmlaa.StmF
open Go.RowKit Go.Proofs.Ytfefpbnhpncmlaa.EntL Go.Proofs.Ytfefpbnhpncmlaa.EntB Go.Proofs.Ytfefpbnhpncmlaa.EntC Go.Proofs.Ytfefpbnhpncmlaa.EntD Go.Proofs.Ytfefpbnhpncmlaa.EntE Go.Proofs.Ytfefpbnhpncmlaa.EntF Go.Proofs.Ytfefpbnhpncmlaa.CatR Go.Proofs.Ytfefpbnhpncmlaa.CatT Go.Proofs.Ytfefpbnhpncmlaa.CatU Go.Proofs.Ytfefpbnhpncmlaa.CatK Go.Proofs.Ytfefpbnhpncmlaa.CatS Go.Proofs.Ytfefpbnhpncmlaa.CatY Go.Proofs.Ytfefpbnhpncmlaa.RefG Go.Proofs.Ytfefpbnhpncmlaa.PtrB Go.Proofs.Ytfefpbnhpncmlaa.PtrG Go.Proofs.Ytfefpbnhpncmlaa.Agg Go.Proofs.Ytfefpbnhpncmlaa.B8 Go.Proofs.Ytfefpbnhpncmlaa.CodL Go.Proofs.Ytfefpbnhpncmlaa.CodA Go.Proofs.Ytfefpbnhpncmlaa.CodB Go.Proofs.Ytfefpbnhpncmlaa.CatL Go.Proofs.Ytfefpbnhpncmlaa.PtrA Go.Proofs.Ytfefpbnhpncmlaa.PtrE Go.Proofs.Ytfefpbnhpncmlaa.PtrF Go.Proofs.Ytfefpbnhpncmlaa.PBaseSigns Go.Proofs.YtfefpbnhpncmlaaW.PrintWords Go.Proofs.YtfefpbnhpncmlaaW.PrintLast Go.Proofs.YtfefpbnhpncmlaaW.PrintMore Go.Proofs.Ytfefpbnhpncmlaa.EntG Go.Proofs.Ytfefpbnhpncmlaa.StmA Go.Proofs.Ytfefpbnhpncmlaa.StmB Go.Proofs.Ytfefpbnhpncmlaa.StmC Go.Proofs.Ytfefpbnhpncmlaa.CrcC Go.Proofs.Ytfefpbnhpncmlaa.StmD Go.Proofs.Ytfefpbnhpncmlaa.StmE Go.Proofs.Ytfefpbnhpncmlaa.CrcL Go.Proofs.Ytfefpbnhpncmlaa.StmL
set_option linter.unusedVariables false
set_option linter.unusedSimpArgs false

section
variable {ops : Array Oper} {o : Oper} {rest : List Oper} {a : Act} {Q : Exit → Act → World → Prop} {K : Act → World → Prop}
end
end Go.Proofs.Ytfefpbnhpncmlaa.StmF
namespace Go.Proofs.Ytfefpbnhpncmlaa.StmG
open Go.RowKit Go.Proofs.Ytfefpbnhpncmlaa.EntL Go.Proofs.Ytfefpbnhpncmlaa.EntB Go.Proofs.Ytfefpbnhpncmlaa.EntC Go.Proofs.Ytfefpbnhpncmlaa.EntD Go.Proofs.Ytfefpbnhpncmlaa.EntE Go.Proofs.Ytfefpbnhpncmlaa.EntF Go.Proofs.Ytfefpbnhpncmlaa.CatR Go.Proofs.Ytfefpbnhpncmlaa.CatT Go.Proofs.Ytfefpbnhpncmlaa.CatU Go.Proofs.Ytfefpbnhpncmlaa.CatK Go.Proofs.Ytfefpbnhpncmlaa.CatS Go.Proofs.Ytfefpbnhpncmlaa.CatY Go.Proofs.Ytfefpbnhpncmlaa.RefG Go.Proofs.Ytfefpbnhpncmlaa.PtrB Go.Proofs.Ytfefpbnhpncmlaa.PtrG Go.Proofs.Ytfefpbnhpncmlaa.Agg Go.Proofs.Ytfefpbnhpncmlaa.B8 Go.Proofs.Ytfefpbnhpncmlaa.CodL Go.Proofs.Ytfefpbnhpncmlaa.CodA Go.Proofs.Ytfefpbnhpncmlaa.CodB Go.Proofs.Ytfefpbnhpncmlaa.CatL Go.Proofs.Ytfefpbnhpncmlaa.PtrA Go.Proofs.Ytfefpbnhpncmlaa.PtrE Go.Proofs.Ytfefpbnhpncmlaa.PtrF Go.Proofs.Ytfefpbnhpncmlaa.PBaseSigns Go.Proofs.YtfefpbnhpncmlaaW.PrintWords Go.Proofs.YtfefpbnhpncmlaaW.PrintLast Go.Proofs.YtfefpbnhpncmlaaW.PrintMore Go.Proofs.Ytfefpbnhpncmlaa.EntG Go.Proofs.Ytfefpbnhpncmlaa.StmA Go.Proofs.Ytfefpbnhpncmlaa.StmB Go.Proofs.Ytfefpbnhpncmlaa.StmC Go.Proofs.Ytfefpbnhpncmlaa.CrcC Go.Proofs.Ytfefpbnhpncmlaa.StmD Go.Proofs.Ytfefpbnhpncmlaa.StmE Go.Proofs.Ytfefpbnhpncmlaa.CrcL Go.Proofs.Ytfefpbnhpncmlaa.StmL Go.Proofs.Ytfefpbnhpncmlaa.StmF
set_option linter.unusedVariables false
set_option linter.unusedSimpArgs false

section
variable {ops : Array Oper} {o : Oper} {rest : List Oper} {a : Act} {Q : Exit → Act → World → Prop} {K : Act → World → Prop}
end
end Go.Proofs.Ytfefpbnhpncmlaa.StmG
namespace Go.Proofs.Ytfefpbnhpncmlaa.StmH
open Go.RowKit Go.Proofs.Ytfefpbnhpncmlaa.EntL Go.Proofs.Ytfefpbnhpncmlaa.EntB Go.Proofs.Ytfefpbnhpncmlaa.EntC Go.Proofs.Ytfefpbnhpncmlaa.EntD Go.Proofs.Ytfefpbnhpncmlaa.EntE Go.Proofs.Ytfefpbnhpncmlaa.EntF Go.Proofs.Ytfefpbnhpncmlaa.CatR Go.Proofs.Ytfefpbnhpncmlaa.CatT Go.Proofs.Ytfefpbnhpncmlaa.CatU Go.Proofs.Ytfefpbnhpncmlaa.CatK Go.Proofs.Ytfefpbnhpncmlaa.CatS Go.Proofs.Ytfefpbnhpncmlaa.CatY Go.Proofs.Ytfefpbnhpncmlaa.RefG Go.Proofs.Ytfefpbnhpncmlaa.PtrB Go.Proofs.Ytfefpbnhpncmlaa.PtrG Go.Proofs.Ytfefpbnhpncmlaa.Agg Go.Proofs.Ytfefpbnhpncmlaa.B8 Go.Proofs.Ytfefpbnhpncmlaa.CodL Go.Proofs.Ytfefpbnhpncmlaa.CodA Go.Proofs.Ytfefpbnhpncmlaa.CodB Go.Proofs.Ytfefpbnhpncmlaa.CatL Go.Proofs.Ytfefpbnhpncmlaa.PtrA Go.Proofs.Ytfefpbnhpncmlaa.PtrE Go.Proofs.Ytfefpbnhpncmlaa.PtrF Go.Proofs.Ytfefpbnhpncmlaa.PBaseSigns Go.Proofs.YtfefpbnhpncmlaaW.PrintWords Go.Proofs.YtfefpbnhpncmlaaW.PrintLast Go.Proofs.YtfefpbnhpncmlaaW.PrintMore Go.Proofs.Ytfefpbnhpncmlaa.EntG Go.Proofs.Ytfefpbnhpncmlaa.StmA Go.Proofs.Ytfefpbnhpncmlaa.StmB Go.Proofs.Ytfefpbnhpncmlaa.StmC Go.Proofs.Ytfefpbnhpncmlaa.CrcC Go.Proofs.Ytfefpbnhpncmlaa.StmD Go.Proofs.Ytfefpbnhpncmlaa.StmE Go.Proofs.Ytfefpbnhpncmlaa.CrcL Go.Proofs.Ytfefpbnhpncmlaa.StmL Go.Proofs.Ytfefpbnhpncmlaa.StmF Go.Proofs.Ytfefpbnhpncmlaa.StmG
set_option linter.unusedVariables false
set_option linter.unusedSimpArgs false

end Go.Proofs.Ytfefpbnhpncmlaa.StmH
namespace Go.Proofs.Ytfefpbnhpncmlaa.StmI
open Go.RowKit Go.Proofs.Ytfefpbnhpncmlaa.EntL Go.Proofs.Ytfefpbnhpncmlaa.EntB Go.Proofs.Ytfefpbnhpncmlaa.EntC Go.Proofs.Ytfefpbnhpncmlaa.EntD Go.Proofs.Ytfefpbnhpncmlaa.EntE Go.Proofs.Ytfefpbnhpncmlaa.EntF Go.Proofs.Ytfefpbnhpncmlaa.CatR Go.Proofs.Ytfefpbnhpncmlaa.CatT Go.Proofs.Ytfefpbnhpncmlaa.CatU Go.Proofs.Ytfefpbnhpncmlaa.CatK Go.Proofs.Ytfefpbnhpncmlaa.CatS Go.Proofs.Ytfefpbnhpncmlaa.CatY Go.Proofs.Ytfefpbnhpncmlaa.RefG Go.Proofs.Ytfefpbnhpncmlaa.PtrB Go.Proofs.Ytfefpbnhpncmlaa.PtrG Go.Proofs.Ytfefpbnhpncmlaa.Agg Go.Proofs.Ytfefpbnhpncmlaa.B8 Go.Proofs.Ytfefpbnhpncmlaa.CodL Go.Proofs.Ytfefpbnhpncmlaa.CodA Go.Proofs.Ytfefpbnhpncmlaa.CodB Go.Proofs.Ytfefpbnhpncmlaa.CatL Go.Proofs.Ytfefpbnhpncmlaa.PtrA Go.Proofs.Ytfefpbnhpncmlaa.PtrE Go.Proofs.Ytfefpbnhpncmlaa.PtrF Go.Proofs.Ytfefpbnhpncmlaa.PBaseSigns Go.Proofs.YtfefpbnhpncmlaaW.PrintWords Go.Proofs.YtfefpbnhpncmlaaW.PrintLast Go.Proofs.YtfefpbnhpncmlaaW.PrintMore Go.Proofs.Ytfefpbnhpncmlaa.EntG Go.Proofs.Ytfefpbnhpncmlaa.StmA Go.Proofs.Ytfefpbnhpncmlaa.StmB Go.Proofs.Ytfefpbnhpncmlaa.StmC Go.Proofs.Ytfefpbnhpncmlaa.CrcC Go.Proofs.Ytfefpbnhpncmlaa.StmD Go.Proofs.Ytfefpbnhpncmlaa.StmE Go.Proofs.Ytfefpbnhpncmlaa.CrcL Go.Proofs.Ytfefpbnhpncmlaa.StmL Go.Proofs.Ytfefpbnhpncmlaa.StmF Go.Proofs.Ytfefpbnhpncmlaa.StmG Go.Proofs.Ytfefpbnhpncmlaa.StmH
set_option linter.unusedVariables false
set_option linter.unusedSimpArgs false

end Go.Proofs.Ytfefpbnhpncmlaa.StmI
namespace Go.Proofs.Ytfefpbnhpncmlaa.StmJ
open Go.RowKit Go.Proofs.Ytfefpbnhpncmlaa.EntL Go.Proofs.Ytfefpbnhpncmlaa.EntB Go.Proofs.Ytfefpbnhpncmlaa.EntC Go.Proofs.Ytfefpbnhpncmlaa.EntD Go.Proofs.Ytfefpbnhpncmlaa.EntE Go.Proofs.Ytfefpbnhpncmlaa.EntF Go.Proofs.Ytfefpbnhpncmlaa.CatR Go.Proofs.Ytfefpbnhpncmlaa.CatT Go.Proofs.Ytfefpbnhpncmlaa.CatU Go.Proofs.Ytfefpbnhpncmlaa.CatK Go.Proofs.Ytfefpbnhpncmlaa.CatS Go.Proofs.Ytfefpbnhpncmlaa.CatY Go.Proofs.Ytfefpbnhpncmlaa.RefG Go.Proofs.Ytfefpbnhpncmlaa.PtrB Go.Proofs.Ytfefpbnhpncmlaa.PtrG Go.Proofs.Ytfefpbnhpncmlaa.Agg Go.Proofs.Ytfefpbnhpncmlaa.B8 Go.Proofs.Ytfefpbnhpncmlaa.CodL Go.Proofs.Ytfefpbnhpncmlaa.CodA Go.Proofs.Ytfefpbnhpncmlaa.CodB Go.Proofs.Ytfefpbnhpncmlaa.CatL Go.Proofs.Ytfefpbnhpncmlaa.PtrA Go.Proofs.Ytfefpbnhpncmlaa.PtrE Go.Proofs.Ytfefpbnhpncmlaa.PtrF Go.Proofs.Ytfefpbnhpncmlaa.PBaseSigns Go.Proofs.YtfefpbnhpncmlaaW.PrintWords Go.Proofs.YtfefpbnhpncmlaaW.PrintLast Go.Proofs.YtfefpbnhpncmlaaW.PrintMore Go.Proofs.Ytfefpbnhpncmlaa.EntG Go.Proofs.Ytfefpbnhpncmlaa.StmA Go.Proofs.Ytfefpbnhpncmlaa.StmB Go.Proofs.Ytfefpbnhpncmlaa.StmC Go.Proofs.Ytfefpbnhpncmlaa.CrcC Go.Proofs.Ytfefpbnhpncmlaa.StmD Go.Proofs.Ytfefpbnhpncmlaa.StmE Go.Proofs.Ytfefpbnhpncmlaa.CrcL Go.Proofs.Ytfefpbnhpncmlaa.StmL Go.Proofs.Ytfefpbnhpncmlaa.StmF Go.Proofs.Ytfefpbnhpncmlaa.StmG Go.Proofs.Ytfefpbnhpncmlaa.StmH Go.Proofs.Ytfefpbnhpncmlaa.StmI
set_option linter.unusedVariables false
set_option linter.unusedSimpArgs false

end Go.Proofs.Ytfefpbnhpncmlaa.StmJ
namespace Go.Proofs.Ytfefpbnhpncmlaa.StmK
open Go.RowKit Go.Proofs.Ytfefpbnhpncmlaa.EntL Go.Proofs.Ytfefpbnhpncmlaa.EntB Go.Proofs.Ytfefpbnhpncmlaa.EntC Go.Proofs.Ytfefpbnhpncmlaa.EntD Go.Proofs.Ytfefpbnhpncmlaa.EntE Go.Proofs.Ytfefpbnhpncmlaa.EntF Go.Proofs.Ytfefpbnhpncmlaa.CatR Go.Proofs.Ytfefpbnhpncmlaa.CatT Go.Proofs.Ytfefpbnhpncmlaa.CatU Go.Proofs.Ytfefpbnhpncmlaa.CatK Go.Proofs.Ytfefpbnhpncmlaa.CatS Go.Proofs.Ytfefpbnhpncmlaa.CatY Go.Proofs.Ytfefpbnhpncmlaa.RefG Go.Proofs.Ytfefpbnhpncmlaa.PtrB Go.Proofs.Ytfefpbnhpncmlaa.PtrG Go.Proofs.Ytfefpbnhpncmlaa.Agg Go.Proofs.Ytfefpbnhpncmlaa.B8 Go.Proofs.Ytfefpbnhpncmlaa.CodL Go.Proofs.Ytfefpbnhpncmlaa.CodA Go.Proofs.Ytfefpbnhpncmlaa.CodB Go.Proofs.Ytfefpbnhpncmlaa.CatL Go.Proofs.Ytfefpbnhpncmlaa.PtrA Go.Proofs.Ytfefpbnhpncmlaa.PtrE Go.Proofs.Ytfefpbnhpncmlaa.PtrF Go.Proofs.Ytfefpbnhpncmlaa.PBaseSigns Go.Proofs.YtfefpbnhpncmlaaW.PrintWords Go.Proofs.YtfefpbnhpncmlaaW.PrintLast Go.Proofs.YtfefpbnhpncmlaaW.PrintMore Go.Proofs.Ytfefpbnhpncmlaa.EntG Go.Proofs.Ytfefpbnhpncmlaa.StmA Go.Proofs.Ytfefpbnhpncmlaa.StmB Go.Proofs.Ytfefpbnhpncmlaa.StmC Go.Proofs.Ytfefpbnhpncmlaa.CrcC Go.Proofs.Ytfefpbnhpncmlaa.StmD Go.Proofs.Ytfefpbnhpncmlaa.StmE Go.Proofs.Ytfefpbnhpncmlaa.CrcL Go.Proofs.Ytfefpbnhpncmlaa.StmL Go.Proofs.Ytfefpbnhpncmlaa.StmF Go.Proofs.Ytfefpbnhpncmlaa.StmG Go.Proofs.Ytfefpbnhpncmlaa.StmH
set_option linter.unusedVariables false
set_option linter.unusedSimpArgs false

end Go.Proofs.Ytfefpbnhpncmlaa.StmK
namespace Go.Proofs.Ytfefpbnhpncmlaa.StmM
open Go.RowKit Go.Proofs.Ytfefpbnhpncmlaa.EntL Go.Proofs.Ytfefpbnhpncmlaa.EntB Go.Proofs.Ytfefpbnhpncmlaa.EntC Go.Proofs.Ytfefpbnhpncmlaa.EntD Go.Proofs.Ytfefpbnhpncmlaa.EntE Go.Proofs.Ytfefpbnhpncmlaa.EntF Go.Proofs.Ytfefpbnhpncmlaa.CatR Go.Proofs.Ytfefpbnhpncmlaa.CatT Go.Proofs.Ytfefpbnhpncmlaa.CatU Go.Proofs.Ytfefpbnhpncmlaa.CatK Go.Proofs.Ytfefpbnhpncmlaa.CatS Go.Proofs.Ytfefpbnhpncmlaa.CatY Go.Proofs.Ytfefpbnhpncmlaa.RefG Go.Proofs.Ytfefpbnhpncmlaa.PtrB Go.Proofs.Ytfefpbnhpncmlaa.PtrG Go.Proofs.Ytfefpbnhpncmlaa.Agg Go.Proofs.Ytfefpbnhpncmlaa.B8 Go.Proofs.Ytfefpbnhpncmlaa.CodL Go.Proofs.Ytfefpbnhpncmlaa.CodA Go.Proofs.Ytfefpbnhpncmlaa.CodB Go.Proofs.Ytfefpbnhpncmlaa.CatL Go.Proofs.Ytfefpbnhpncmlaa.PtrA Go.Proofs.Ytfefpbnhpncmlaa.PtrE Go.Proofs.Ytfefpbnhpncmlaa.PtrF Go.Proofs.Ytfefpbnhpncmlaa.PBaseSigns Go.Proofs.YtfefpbnhpncmlaaW.PrintWords Go.Proofs.YtfefpbnhpncmlaaW.PrintLast Go.Proofs.YtfefpbnhpncmlaaW.PrintMore Go.Proofs.Ytfefpbnhpncmlaa.EntG Go.Proofs.Ytfefpbnhpncmlaa.StmA Go.Proofs.Ytfefpbnhpncmlaa.StmB Go.Proofs.Ytfefpbnhpncmlaa.StmC Go.Proofs.Ytfefpbnhpncmlaa.CrcC Go.Proofs.Ytfefpbnhpncmlaa.StmD Go.Proofs.Ytfefpbnhpncmlaa.StmE Go.Proofs.Ytfefpbnhpncmlaa.CrcL Go.Proofs.Ytfefpbnhpncmlaa.StmL Go.Proofs.Ytfefpbnhpncmlaa.StmF Go.Proofs.Ytfefpbnhpncmlaa.StmG Go.Proofs.Ytfefpbnhpncmlaa.StmH Go.Proofs.Ytfefpbnhpncmlaa.StmI Go.Proofs.Ytfefpbnhpncmlaa.StmJ Go.Proofs.Ytfefpbnhpncmlaa.StmK
set_option linter.unusedVariables false
set_option linter.unusedSimpArgs false

end Go.Proofs.Ytfefpbnhpncmlaa.StmM
namespace Go.Proofs.Ytfefpbnhpncmlaa.StmN
open Go.RowKit Go.Proofs.Ytfefpbnhpncmlaa.EntL Go.Proofs.Ytfefpbnhpncmlaa.EntB Go.Proofs.Ytfefpbnhpncmlaa.EntC Go.Proofs.Ytfefpbnhpncmlaa.EntD Go.Proofs.Ytfefpbnhpncmlaa.EntE Go.Proofs.Ytfefpbnhpncmlaa.EntF Go.Proofs.Ytfefpbnhpncmlaa.CatR Go.Proofs.Ytfefpbnhpncmlaa.CatT Go.Proofs.Ytfefpbnhpncmlaa.CatU Go.Proofs.Ytfefpbnhpncmlaa.CatK Go.Proofs.Ytfefpbnhpncmlaa.CatS Go.Proofs.Ytfefpbnhpncmlaa.CatY Go.Proofs.Ytfefpbnhpncmlaa.RefG Go.Proofs.Ytfefpbnhpncmlaa.PtrB Go.Proofs.Ytfefpbnhpncmlaa.PtrG Go.Proofs.Ytfefpbnhpncmlaa.Agg Go.Proofs.Ytfefpbnhpncmlaa.B8 Go.Proofs.Ytfefpbnhpncmlaa.CodL Go.Proofs.Ytfefpbnhpncmlaa.CodA Go.Proofs.Ytfefpbnhpncmlaa.CodB Go.Proofs.Ytfefpbnhpncmlaa.CatL Go.Proofs.Ytfefpbnhpncmlaa.PtrA Go.Proofs.Ytfefpbnhpncmlaa.PtrE Go.Proofs.Ytfefpbnhpncmlaa.PtrF Go.Proofs.Ytfefpbnhpncmlaa.PBaseSigns Go.Proofs.YtfefpbnhpncmlaaW.PrintWords Go.Proofs.YtfefpbnhpncmlaaW.PrintLast Go.Proofs.YtfefpbnhpncmlaaW.PrintMore Go.Proofs.Ytfefpbnhpncmlaa.EntG Go.Proofs.Ytfefpbnhpncmlaa.StmA Go.Proofs.Ytfefpbnhpncmlaa.StmB Go.Proofs.Ytfefpbnhpncmlaa.StmC Go.Proofs.Ytfefpbnhpncmlaa.CrcC Go.Proofs.Ytfefpbnhpncmlaa.StmD Go.Proofs.Ytfefpbnhpncmlaa.StmE Go.Proofs.Ytfefpbnhpncmlaa.CrcL Go.Proofs.Ytfefpbnhpncmlaa.StmL Go.Proofs.Ytfefpbnhpncmlaa.StmF Go.Proofs.Ytfefpbnhpncmlaa.StmG Go.Proofs.Ytfefpbnhpncmlaa.StmH Go.Proofs.Ytfefpbnhpncmlaa.StmI Go.Proofs.Ytfefpbnhpncmlaa.StmJ Go.Proofs.Ytfefpbnhpncmlaa.StmK Go.Proofs.Ytfefpbnhpncmlaa.StmM
set_option linter.unusedVariables false
set_option linter.unusedSimpArgs false

end Go.Proofs.Ytfefpbnhpncmlaa.StmN
namespace Go.Proofs.Ytfefpbnhpncmlaa.StmO
open Go.RowKit Go.Proofs.Ytfefpbnhpncmlaa.EntL Go.Proofs.Ytfefpbnhpncmlaa.EntB Go.Proofs.Ytfefpbnhpncmlaa.EntC Go.Proofs.Ytfefpbnhpncmlaa.EntD Go.Proofs.Ytfefpbnhpncmlaa.EntE Go.Proofs.Ytfefpbnhpncmlaa.EntF Go.Proofs.Ytfefpbnhpncmlaa.CatR Go.Proofs.Ytfefpbnhpncmlaa.CatT Go.Proofs.Ytfefpbnhpncmlaa.CatU Go.Proofs.Ytfefpbnhpncmlaa.CatK Go.Proofs.Ytfefpbnhpncmlaa.CatS Go.Proofs.Ytfefpbnhpncmlaa.CatY Go.Proofs.Ytfefpbnhpncmlaa.RefG Go.Proofs.Ytfefpbnhpncmlaa.PtrB Go.Proofs.Ytfefpbnhpncmlaa.PtrG Go.Proofs.Ytfefpbnhpncmlaa.Agg Go.Proofs.Ytfefpbnhpncmlaa.B8 Go.Proofs.Ytfefpbnhpncmlaa.CodL Go.Proofs.Ytfefpbnhpncmlaa.CodA Go.Proofs.Ytfefpbnhpncmlaa.CodB Go.Proofs.Ytfefpbnhpncmlaa.CatL Go.Proofs.Ytfefpbnhpncmlaa.PtrA Go.Proofs.Ytfefpbnhpncmlaa.PtrE Go.Proofs.Ytfefpbnhpncmlaa.PtrF Go.Proofs.Ytfefpbnhpncmlaa.PBaseSigns Go.Proofs.YtfefpbnhpncmlaaW.PrintWords Go.Proofs.YtfefpbnhpncmlaaW.PrintLast Go.Proofs.YtfefpbnhpncmlaaW.PrintMore Go.Proofs.Ytfefpbnhpncmlaa.EntG Go.Proofs.Ytfefpbnhpncmlaa.StmA Go.Proofs.Ytfefpbnhpncmlaa.StmB Go.Proofs.Ytfefpbnhpncmlaa.StmC Go.Proofs.Ytfefpbnhpncmlaa.CrcC Go.Proofs.Ytfefpbnhpncmlaa.StmD Go.Proofs.Ytfefpbnhpncmlaa.StmE Go.Proofs.Ytfefpbnhpncmlaa.CrcL Go.Proofs.Ytfefpbnhpncmlaa.StmL Go.Proofs.Ytfefpbnhpncmlaa.StmF Go.Proofs.Ytfefpbnhpncmlaa.StmG Go.Proofs.Ytfefpbnhpncmlaa.StmH Go.Proofs.Ytfefpbnhpncmlaa.StmI Go.Proofs.Ytfefpbnhpncmlaa.StmJ Go.Proofs.Ytfefpbnhpncmlaa.StmK Go.Proofs.Ytfefpbnhpncmlaa.StmM Go.Proofs.Ytfefpbnhpncmlaa.StmN Go.Proofs.Ytfefpbnhpncmlaa.CrcB
set_option linter.unusedVariables false
set_option linter.unusedSimpArgs false

/-- Where Put stands. -/
structure PS (w : World) (v : Value) (out : List Int) (cs : Array Value) (t : TypeId) (W : World) : Prop where
  row : R8 W w.heap.size v out
  blk : W.heap[w.heap.size]? = some (.cells cs t (0, 0))
  below : Below w.heap.size w W
theorem PS.on {w W W' : World} {v : Value} {out : List Int} {cs : Array Value} {t : TypeId} (h : PS w v out cs t W) (h2 : Below W.heap.size W W') : PS w v out cs t W' :=
  ⟨Kd.R_below h.row h2, blk_below h.blk h2, below_then h.below h.below.size h2⟩
section
variable {ops : Array Oper} {o : Oper} {rest : List Oper} {a : Act} {Q : Exit → Act → World → Prop} {K : Act → World → Prop}
/-- A byte is laid behind Put's. -/
theorem PS.app1 {w W : World} {v : Value} {out : List Int} {cs : Array Value} {t : TypeId} (H : PS w v out cs t W) (ht : 5 ≠ t) (hgd : o.guard = none) (s x : Operand)
    (ho : o.op = .call { callee := .builtin .append, args := #[s, x], argTypes := #[31, 31] }) (p : Int) (hs : a.eval s = v) (hx : a.eval x = .slice (some ⟨W.heap.size, 0, none⟩) 1 1) (hl : out.length < 1000000)
    (h : ∀ v1 w1, PS w v1 (out ++ [p]) cs t w1 → W.grownBy w1 v.ownBlock → wpList Try.prog ops Q rest (a.put o.dst v1) w1) :
    wpList Try.prog ops Q (o :: rest) a (W.alloc (.cells #[.int .u8 p] 5)) :=
  Kd.R_append (Kd.int .u8) (w0 := w) w.heap.size hgd s x 31 5 (.int .u8 0) 1 ho Try.underlying31 info5 rfl (by decide) (by omega) v out p [.int .u8 p] (fun _ => True) (fun _ => False) hs hx rfl (fun _ hk => hk.elim) (fun _ _ => trivial) H.row H.below H.below.size (by omega)
    (fun v1 w1 h1 h2 h3 _ => h v1 w1 ⟨h1, blk_grown H.blk h3 (Kd.R_ne H.row H.blk ht), h2⟩ h3)
end
end Go.Proofs.Ytfefpbnhpncmlaa.StmO
namespace Go.Proofs.Ytfefpbnhpncmlaa.StmP
open Go.RowKit Go.Proofs.Ytfefpbnhpncmlaa.EntL Go.Proofs.Ytfefpbnhpncmlaa.EntB Go.Proofs.Ytfefpbnhpncmlaa.EntC Go.Proofs.Ytfefpbnhpncmlaa.EntD Go.Proofs.Ytfefpbnhpncmlaa.EntE Go.Proofs.Ytfefpbnhpncmlaa.EntF Go.Proofs.Ytfefpbnhpncmlaa.CatR Go.Proofs.Ytfefpbnhpncmlaa.CatT Go.Proofs.Ytfefpbnhpncmlaa.CatU Go.Proofs.Ytfefpbnhpncmlaa.CatK Go.Proofs.Ytfefpbnhpncmlaa.CatS Go.Proofs.Ytfefpbnhpncmlaa.CatY Go.Proofs.Ytfefpbnhpncmlaa.RefG Go.Proofs.Ytfefpbnhpncmlaa.PtrB Go.Proofs.Ytfefpbnhpncmlaa.PtrG Go.Proofs.Ytfefpbnhpncmlaa.Agg Go.Proofs.Ytfefpbnhpncmlaa.B8 Go.Proofs.Ytfefpbnhpncmlaa.CodL Go.Proofs.Ytfefpbnhpncmlaa.CodA Go.Proofs.Ytfefpbnhpncmlaa.CodB Go.Proofs.Ytfefpbnhpncmlaa.CatL Go.Proofs.Ytfefpbnhpncmlaa.PtrA Go.Proofs.Ytfefpbnhpncmlaa.PtrE Go.Proofs.Ytfefpbnhpncmlaa.PtrF Go.Proofs.Ytfefpbnhpncmlaa.PBaseSigns Go.Proofs.YtfefpbnhpncmlaaW.PrintWords Go.Proofs.YtfefpbnhpncmlaaW.PrintLast Go.Proofs.YtfefpbnhpncmlaaW.PrintMore Go.Proofs.Ytfefpbnhpncmlaa.EntG Go.Proofs.Ytfefpbnhpncmlaa.StmA Go.Proofs.Ytfefpbnhpncmlaa.StmB Go.Proofs.Ytfefpbnhpncmlaa.StmC Go.Proofs.Ytfefpbnhpncmlaa.CrcC Go.Proofs.Ytfefpbnhpncmlaa.StmD Go.Proofs.Ytfefpbnhpncmlaa.StmE Go.Proofs.Ytfefpbnhpncmlaa.CrcL Go.Proofs.Ytfefpbnhpncmlaa.StmL Go.Proofs.Ytfefpbnhpncmlaa.StmF Go.Proofs.Ytfefpbnhpncmlaa.StmG Go.Proofs.Ytfefpbnhpncmlaa.StmH Go.Proofs.Ytfefpbnhpncmlaa.StmI Go.Proofs.Ytfefpbnhpncmlaa.StmJ Go.Proofs.Ytfefpbnhpncmlaa.StmK Go.Proofs.Ytfefpbnhpncmlaa.StmM Go.Proofs.Ytfefpbnhpncmlaa.StmN Go.Proofs.Ytfefpbnhpncmlaa.StmO
set_option linter.unusedVariables false
set_option linter.unusedSimpArgs false

section
variable {ops : Array Oper} {o : Oper} {rest : List Oper} {a : Act} {Q : Exit → Act → World → Prop} {K : Act → World → Prop}
theorem wp_app1 {w W : World} {v : Value} {out : List Int} {cs : Array Value} {t : TypeId} (H : PS w v out cs t W) (ht : 5 ≠ t) (s x : Operand)
    (ho : o.op = .call { callee := .builtin .append, args := #[s, x], argTypes := #[31, 31] }) (p : Int) (hs : a.eval s = v) (hx : a.eval x = .slice (some ⟨W.heap.size, 0, none⟩) 1 1) (hl : out.length < 1000000)
    (h : ∀ v1 w1, PS w v1 (out ++ [p]) cs t w1 → W.grownBy w1 v.ownBlock → K (a.put o.dst v1) w1) :
    o.wp Try.prog a (W.alloc (.cells #[.int .u8 p] 5)) K Q := by
  have hop : ({ o with guard := none } : Oper).op = .call { callee := .builtin .append, args := #[s, x], argTypes := #[31, 31] } := ho
  have := Kd.R_append_step (P := Try.prog) (ops := #[]) (o := { o with guard := none }) (a := a) (Q := Q) (Kc := K) (Kd.int .u8) (w0 := w) w.heap.size rfl s x 31 5 (.int .u8 0) 1 hop Try.underlying31 info5 rfl (by decide) (by decide) v out p [.int .u8 p] (fun _ => True) (fun _ => False) hs hx rfl (fun _ h => h.elim) (fun _ _ => trivial) H.row H.below H.below.size (by omega)
    (fun v1 w1 h1 h2 h3 _ => h v1 w1 ⟨h1, blk_grown H.blk h3 (Kd.R_ne H.row H.blk ht), h2⟩ h3)
  have hw : Region.wanted { o with guard := none } (yielded #[] a.tmps) = true := rfl
  rw [if_pos hw] at this
  exact this
end
end Go.Proofs.Ytfefpbnhpncmlaa.StmP
namespace Go.Proofs.Ytfefpbnhpncmlaa.DeaL
set_option linter.unusedVariables false
set_option linter.unusedSimpArgs false

variable {α : Type} (k : α → Nat)
/-- Put to a list in order, where there is none of its key. -/
def ins (x : α) : List α → List α
  | [] => [x]
  | y :: r => if k y < k x then y :: ins x r else if k y = k x then y :: r else x :: y :: r
/-- In order, each key once. -/
def uniq (l : List α) : List α := l.foldl (fun acc x => ins k x acc) []
/-- Put to a list in order, behind those of its key. -/
def insS (x : α) : List α → List α
  | [] => [x]
  | y :: r => if k x < k y then x :: y :: r else y :: insS x r
def stab (l : List α) : List α := l.foldl (fun acc x => insS k x acc) []
def mrg : List α → List α → List α
  | [], v => v
  | x :: u, [] => x :: u
  | x :: u, y :: v => if k y < k x then y :: mrg (x :: u) v else x :: mrg u (y :: v)
termination_by u v => u.length + v.length
/-- Of those of a key that lie side by side the first one. -/
def comp : List α → List α
  | [] => []
  | [x] => [x]
  | x :: y :: r => if k x = k y then comp (x :: r) else x :: comp (y :: r)
termination_by l => l.length
def Srt (l : List α) : Prop := l.Pairwise (fun x y => k x ≤ k y)
variable {k}
theorem mrg_nil_left (v : List α) : mrg k [] v = v := by cases v <;> simp [mrg]
theorem mrg_nil_right (u : List α) : mrg k u [] = u := by cases u <;> simp [mrg]
theorem mrg_lt {x y : α} {u v : List α} (h : k y < k x) : mrg k (x :: u) (y :: v) = y :: mrg k (x :: u) v := by rw [mrg, if_pos h]
theorem mrg_ge {x y : α} {u v : List α} (h : ¬ k y < k x) : mrg k (x :: u) (y :: v) = x :: mrg k u (y :: v) := by rw [mrg, if_neg h]
theorem mem_insS {x z : α} {l : List α} : z ∈ insS k x l ↔ z = x ∨ z ∈ l := by
  induction l with
  | nil => simp [insS]
  | cons y r ih =>
    unfold insS
    split
    · simp
    · simp only [List.mem_cons, ih]
      constructor
      · rintro (h | h | h) <;> simp [h]
      · rintro (h | h | h) <;> simp [h]
theorem srt_insS {x : α} {l : List α} (h : Srt k l) : Srt k (insS k x l) := by
  induction l with
  | nil => simp [insS, Srt]
  | cons y r ih =>
    obtain ⟨h1, h2⟩ := List.pairwise_cons.1 h
    unfold insS
    split
    · rename_i hlt
      refine List.pairwise_cons.2 ⟨fun z hz => ?_, h⟩
      rcases List.mem_cons.1 hz with rfl | hz
      · omega
      · have := h1 z hz; omega
    · rename_i hge
      refine List.pairwise_cons.2 ⟨fun z hz => ?_, ih h2⟩
      rcases mem_insS.1 hz with rfl | hz
      · omega
      · exact h1 z hz
theorem stab_snoc (l : List α) (x : α) : stab k (l ++ [x]) = insS k x (stab k l) := by simp [stab]
theorem uniq_snoc (l : List α) (x : α) : uniq k (l ++ [x]) = ins k x (uniq k l) := by simp [uniq]
theorem snoc_ind {P : List α → Prop} (h0 : P []) (hs : ∀ l x, P l → P (l ++ [x])) (l : List α) : P l := by
  have : ∀ r : List α, P r.reverse := fun r => by
    induction r with
    | nil => exact h0
    | cons x r ih => rw [List.reverse_cons]; exact hs _ _ ih
  have := this l.reverse
  rwa [List.reverse_reverse] at this
theorem srt_stab (l : List α) : Srt k (stab k l) := by
  refine snoc_ind (P := fun l => Srt k (stab k l)) List.Pairwise.nil (fun l x ih => ?_) l
  rw [stab_snoc]
  exact srt_insS ih
theorem len_insS (x : α) (l : List α) : (insS k x l).length = l.length + 1 := by
  induction l with
  | nil => rfl
  | cons y r ih => unfold insS; split
                   · simp
                   · simp [ih]
theorem len_stab (l : List α) : (stab k l).length = l.length := by
  refine snoc_ind (P := fun l => (stab k l).length = l.length) rfl (fun l x ih => ?_) l
  rw [stab_snoc, len_insS, ih]; simp
theorem mrg_ins (x : α) (U V : List α) (hU : Srt k U) (hV : Srt k V) : mrg k U (insS k x V) = insS k x (mrg k U V) := by
  induction U generalizing V with
  | nil => rw [mrg_nil_left, mrg_nil_left]
  | cons a U ihU =>
    obtain ⟨a1, a2⟩ := List.pairwise_cons.1 hU
    induction V with
    | nil =>
      rw [mrg_nil_right]
      have e := ihU [] a2 List.Pairwise.nil
      rw [mrg_nil_right] at e
      simp only [insS] at e ⊢
      by_cases h : k x < k a
      · rw [mrg_lt h, mrg_nil_right, if_pos h]
      · rw [mrg_ge h, if_neg h, e]
    | cons b V ihV =>
      obtain ⟨b1, b2⟩ := List.pairwise_cons.1 hV
      by_cases hba : k b < k a
      · rw [mrg_lt hba]
        by_cases hxb : k x < k b
        · have : insS k x (b :: V) = x :: b :: V := by rw [insS, if_pos hxb]
          rw [this, mrg_lt (by omega), mrg_lt hba, insS, if_pos hxb]
        · have : insS k x (b :: V) = b :: insS k x V := by rw [insS, if_neg hxb]
          rw [this, mrg_lt hba, ihV b2, insS, if_neg hxb]
      · rw [mrg_ge hba]
        by_cases hxb : k x < k b
        · have e : insS k x (b :: V) = x :: b :: V := by rw [insS, if_pos hxb]
          rw [e]
          by_cases hxa : k x < k a
          · rw [mrg_lt hxa, mrg_ge hba, insS, if_pos hxa]
          · rw [mrg_ge hxa, insS, if_neg hxa, ← e, ihU (b :: V) a2 hV]
        · have e : insS k x (b :: V) = b :: insS k x V := by rw [insS, if_neg hxb]
          rw [e, mrg_ge hba, insS, if_neg (by omega), ← e, ihU (b :: V) a2 hV]
/-- Two parts, each in order, are merged to the whole in order. -/
theorem mrg_stab (u v : List α) : mrg k (stab k u) (stab k v) = stab k (u ++ v) := by
  refine snoc_ind (P := fun v => mrg k (stab k u) (stab k v) = stab k (u ++ v)) (by simp [stab, mrg_nil_right]) (fun v x ih => ?_) v
  rw [stab_snoc, mrg_ins x _ _ (srt_stab u) (srt_stab v), ih, ← List.append_assoc, stab_snoc]
theorem mrg_left_all (u1 u2 v : List α) (h : ∀ x ∈ u1, ∀ y ∈ v, k x ≤ k y) : mrg k (u1 ++ u2) v = u1 ++ mrg k u2 v := by
  induction u1 with
  | nil => rfl
  | cons x u1 ih =>
    have ih := ih (fun a ha => h a (List.mem_cons_of_mem _ ha))
    cases v with
    | nil => rw [mrg_nil_right, mrg_nil_right]
    | cons y v =>
      rw [List.cons_append, mrg_ge (by have := h x (List.mem_cons_self ..) y (List.mem_cons_self ..); omega), ih]
      rfl
theorem mrg_right_all (u v1 v2 : List α) (h : ∀ y ∈ v1, ∀ x ∈ u, k y < k x) : mrg k u (v1 ++ v2) = v1 ++ mrg k u v2 := by
  induction v1 with
  | nil => rfl
  | cons y v1 ih =>
    have ih := ih (fun a ha => h a (List.mem_cons_of_mem _ ha))
    cases u with
    | nil => rw [mrg_nil_left, mrg_nil_left]
    | cons x u =>
      rw [List.cons_append, mrg_lt (h y (List.mem_cons_self ..) x (List.mem_cons_self ..)), ih]
      rfl
/-- A merge by halves. -/
theorem mrg_split (u1 u2 v1 v2 : List α) (h1 : ∀ y ∈ v1, ∀ x ∈ u2, k y < k x) (h2 : ∀ x ∈ u1, ∀ y ∈ v2, k x ≤ k y) :
    mrg k (u1 ++ u2) (v1 ++ v2) = mrg k u1 v1 ++ mrg k u2 v2 := by
  induction u1 generalizing v1 with
  | nil => rw [mrg_nil_left, List.nil_append, mrg_right_all _ _ _ h1]
  | cons x u1 ihu =>
    have ihu := fun v1 h => ihu v1 h (fun a ha => h2 a (List.mem_cons_of_mem _ ha))
    induction v1 with
    | nil => rw [mrg_nil_right, List.nil_append, mrg_left_all _ _ _ h2]
    | cons y v1 ihv =>
      have ihv := ihv (fun a ha => h1 a (List.mem_cons_of_mem _ ha))
      by_cases h : k y < k x
      · rw [List.cons_append, List.cons_append, mrg_lt h, mrg_lt h, List.cons_append]
        rw [List.cons_append] at ihv
        rw [ihv]
      · rw [List.cons_append, List.cons_append, mrg_ge h, mrg_ge h, List.cons_append]
        have := ihu (y :: v1) h1
        rw [List.cons_append] at this
        rw [this]
/-- What is in order is as it is. -/
theorem stab_srt (l : List α) (h : Srt k l) : stab k l = l := by
  revert h
  refine snoc_ind (P := fun l => Srt k l → stab k l = l) (fun _ => rfl) (fun l x ih h => ?_) l
  obtain ⟨h1, _, h3⟩ := List.pairwise_append.1 h
  rw [stab_snoc, ih h1]
  have : ∀ l : List α, (∀ y ∈ l, k y ≤ k x) → insS k x l = l ++ [x] := fun l hl => by
    induction l with
    | nil => rfl
    | cons y r ihr => rw [insS, if_neg (by have := hl y (List.mem_cons_self ..); omega), ihr (fun z hz => hl z (List.mem_cons_of_mem _ hz))]; rfl
  exact this l (fun y hy => h3 y hy x (List.mem_singleton.2 rfl))
theorem comp_cons_eq {x y : α} {r : List α} (h : k x = k y) : comp k (x :: y :: r) = comp k (x :: r) := by rw [comp, if_pos h]
theorem comp_cons_ne {x y : α} {r : List α} (h : k x ≠ k y) : comp k (x :: y :: r) = x :: comp k (y :: r) := by rw [comp, if_neg h]
theorem comp_head (x : α) (r : List α) : ∃ t, comp k (x :: r) = x :: t := by
  induction hn : r.length using Nat.strongRecOn generalizing r with
  | _ n ih =>
    cases r with
    | nil => exact ⟨[], by rw [comp]⟩
    | cons y r =>
      by_cases h : k x = k y
      · rw [comp_cons_eq h]
        exact ih r.length (by simp at hn; omega) r rfl
      · rw [comp_cons_ne h]; exact ⟨_, rfl⟩
theorem comp_ins (x : α) (s : List α) (h : Srt k s) : comp k (insS k x s) = ins k x (comp k s) := by
  induction hn : s.length using Nat.strongRecOn generalizing s with
  | _ n ih =>
    match s, hn, h with
    | [], _, _ => simp [insS, comp, ins]
    | [y], _, _ =>
      simp only [insS, comp, ins]
      by_cases h1 : k x < k y
      · rw [if_pos h1, comp_cons_ne (by omega), comp, if_neg (by omega), if_neg (by omega)]
      · rw [if_neg h1]
        by_cases h2 : k y = k x
        · rw [comp_cons_eq h2, comp, if_neg (by omega), if_pos h2]
        · rw [comp_cons_ne h2, comp, if_pos (by omega)]
    | y :: z :: r, hn, h =>
      obtain ⟨hy, hr⟩ := List.pairwise_cons.1 h
      have hyz := hy z (List.mem_cons_self ..)
      have hyr : Srt k (y :: r) := List.pairwise_cons.2 ⟨fun a ha => hy a (List.mem_cons_of_mem _ ha), (List.pairwise_cons.1 hr).2⟩
      by_cases h1 : k x < k y
      · rw [insS, if_pos h1, comp_cons_ne (by omega)]
        obtain ⟨t, ht⟩ := comp_head (k := k) y (z :: r)
        rw [ht, ins, if_neg (by omega), if_neg (by omega)]
      · rw [insS, if_neg h1]
        by_cases h2 : k y = k z
        · have e1 : comp k (y :: z :: r) = comp k (y :: r) := comp_cons_eq h2
          have i1 := ih (y :: r).length (by simp at hn ⊢; omega) (y :: r) hyr rfl
          rw [insS, if_neg h1] at i1
          rw [e1, ← i1]
          rw [insS, if_neg (by omega), comp_cons_eq h2]
        · have i1 := ih (z :: r).length (by simp at hn ⊢; omega) (z :: r) hr rfl
          rw [comp_cons_ne h2]
          by_cases h3 : k x < k z
          · rw [insS, if_pos h3]
            obtain ⟨t, ht⟩ := comp_head (k := k) z r
            by_cases h4 : k y = k x
            · rw [comp_cons_eq h4, comp_cons_ne h2, ins, if_neg (by omega), if_pos h4]
            · rw [comp_cons_ne h4, comp_cons_ne (by omega), ins, if_pos (by omega), ht, ins, if_neg (by omega), if_neg (by omega)]
          · have e2 : insS k x (z :: r) = z :: insS k x r := by rw [insS, if_neg h3]
            rw [e2, comp_cons_ne h2, ← e2, i1, ins, if_pos (by omega)]
/-- Sorted stably, of each key the first: that is, inserted one by one. -/
theorem comp_stab (l : List α) : comp k (stab k l) = uniq k l := by
  refine snoc_ind (P := fun l => comp k (stab k l) = uniq k l) (by simp [stab, uniq, comp]) (fun l x ih => ?_) l
  rw [stab_snoc, comp_ins x _ (srt_stab l), ih, uniq_snoc]
end Go.Proofs.Ytfefpbnhpncmlaa.DeaL
namespace Go.Proofs.Ytfefpbnhpncmlaa.DeaA
open Go.RowKit Go.Proofs.Ytfefpbnhpncmlaa.EntL Go.Proofs.Ytfefpbnhpncmlaa.EntB Go.Proofs.Ytfefpbnhpncmlaa.EntC Go.Proofs.Ytfefpbnhpncmlaa.EntD Go.Proofs.Ytfefpbnhpncmlaa.EntE Go.Proofs.Ytfefpbnhpncmlaa.EntF Go.Proofs.Ytfefpbnhpncmlaa.CatR Go.Proofs.Ytfefpbnhpncmlaa.CatT Go.Proofs.Ytfefpbnhpncmlaa.CatU Go.Proofs.Ytfefpbnhpncmlaa.CatK Go.Proofs.Ytfefpbnhpncmlaa.CatS Go.Proofs.Ytfefpbnhpncmlaa.CatY Go.Proofs.Ytfefpbnhpncmlaa.RefG Go.Proofs.Ytfefpbnhpncmlaa.PtrB Go.Proofs.Ytfefpbnhpncmlaa.PtrG Go.Proofs.Ytfefpbnhpncmlaa.Agg Go.Proofs.Ytfefpbnhpncmlaa.B8 Go.Proofs.Ytfefpbnhpncmlaa.CodL Go.Proofs.Ytfefpbnhpncmlaa.CodA Go.Proofs.Ytfefpbnhpncmlaa.CodB Go.Proofs.Ytfefpbnhpncmlaa.CatL Go.Proofs.Ytfefpbnhpncmlaa.PtrA Go.Proofs.Ytfefpbnhpncmlaa.PtrE Go.Proofs.Ytfefpbnhpncmlaa.PtrF Go.Proofs.Ytfefpbnhpncmlaa.PBaseSigns Go.Proofs.YtfefpbnhpncmlaaW.PrintWords Go.Proofs.YtfefpbnhpncmlaaW.PrintLast Go.Proofs.YtfefpbnhpncmlaaW.PrintMore Go.Proofs.Ytfefpbnhpncmlaa.EntG Go.Proofs.Ytfefpbnhpncmlaa.StmA Go.Proofs.Ytfefpbnhpncmlaa.StmB Go.Proofs.Ytfefpbnhpncmlaa.StmC Go.Proofs.Ytfefpbnhpncmlaa.CrcC Go.Proofs.Ytfefpbnhpncmlaa.StmD Go.Proofs.Ytfefpbnhpncmlaa.StmE Go.Proofs.Ytfefpbnhpncmlaa.CrcL Go.Proofs.Ytfefpbnhpncmlaa.StmL Go.Proofs.Ytfefpbnhpncmlaa.StmF Go.Proofs.Ytfefpbnhpncmlaa.StmG Go.Proofs.Ytfefpbnhpncmlaa.StmH Go.Proofs.Ytfefpbnhpncmlaa.StmI Go.Proofs.Ytfefpbnhpncmlaa.StmJ Go.Proofs.Ytfefpbnhpncmlaa.StmK Go.Proofs.Ytfefpbnhpncmlaa.StmM Go.Proofs.Ytfefpbnhpncmlaa.StmN Go.Proofs.Ytfefpbnhpncmlaa.StmO Go.Proofs.Ytfefpbnhpncmlaa.StmP Go.Proofs.Ytfefpbnhpncmlaa.StmP
set_option linter.unusedVariables false
set_option linter.unusedSimpArgs false

/-- A number's bytes, the greatest first. -/
def bigL (k : Nat) (n : Int) : List Int := (fixedL k n).reverse
theorem bigL_zero (n : Int) : bigL 0 n = [] := rfl
theorem bigL_succ (k : Nat) (n : Int) : bigL (k + 1) n = (n / 256 ^ k % 256) :: bigL k n := by unfold bigL; rw [fixedL_succ]; simp
theorem bigL_len (k : Nat) (n : Int) : (bigL k n).length = k := by unfold bigL; rw [List.length_reverse, fixedL_len]
theorem bigL_byt (k : Nat) (n : Int) : Byt (bigL k n) := fun x hx => fixedL_byt k n x (by unfold bigL at hx; simpa using hx)
/-- A block's key. -/
def keyL (p : Ptr) : List Int := bigL 8 p.birth ++ bigL 4 p.at_
theorem keyL_len (p : Ptr) : (keyL p).length = 12 := by rw [keyL, List.length_append, bigL_len, bigL_len]
theorem keyL_byt (p : Ptr) : Byt (keyL p) := (bigL_byt _ _).append (bigL_byt _ _)
theorem shift_byte (n : Int) (m : Nat) : n / 2 ^ (8 * m) % 256 = n / 256 ^ m % 256 := by rw [CodB.pow256]
theorem snoc_big {out : List Int} {m K : Nat} {n : Int} {T : List Int} (h : out ++ bigL (m + 1) n = T) : (out ++ [n / 256 ^ m % 256]) ++ bigL m n = T := by
  rw [← h, bigL_succ]; simp
set_option maxRecDepth 100000 in
set_option maxHeartbeats 1000000 in
theorem rkey_calls (p : Ptr) (hp : Ok p) (w : World) : Calls Try.prog 39 #[.agg (encP p)] w (Tells w (keyL p)) := by
  have B0 := Aside0.mk (below_alloc (Below.refl w.heap.size w) (.cells (encP p) 56))
  have G0 := Aside0.mk (blk_new w (.cells (encP p) 56))
  obtain ⟨P, hP⟩ : ∃ P : Ending → World → Prop, P = Tells w (keyL p) := ⟨_, rfl⟩
  rw [← hP]
  have HP := Aside0.mk hP
  clear hP
  go_enter Try.func39, Try.ntmps39
  have S0 := Aside0.mk (⟨Kd.R_nil _ _ _ _ _, G0.out, B0.out⟩ : PS w (.slice none 0 0) [] (encP p) 56 (w.alloc (.cells (encP p) 56)))
  have e1 : (encP p)[1]? = some (.int .i64 p.birth) := by simp [encP]
  have e0 : (encP p)[0]? = some (.int .i64 p.at_) := by simp [encP]
  go_wp2
  generalize hW0 : w.alloc (.cells (encP p) 56) = W0 at *
  clear hW0 B0 G0
  go_loopw [3, 4] (fun v3 v4 wr => ∃ (j : Nat) (out : List Int), v4 = .int .i64 ((j : Int) - 1) ∧ j ≤ 8 ∧ Aside0 (out ++ bigL j p.birth = bigL 8 p.birth) ∧ out.length + j ≤ 8 ∧ Aside0 (PS w v3 out (encP p) 56 wr)) (fun _ v _ => (intOf v + 1).toNat)
  case atStart => exact ⟨8, [], rfl, by omega, ⟨rfl⟩, by simp, S0⟩
  case round =>
    obtain ⟨j, out, rfl, hj, HO, hlo, H⟩ := hrel
    clear S0
    by_cases h0 : j = 0
    · subst h0
      have hout : out = bigL 8 p.birth := by have := HO.out; rw [bigL_zero, List.append_nil] at this; exact this
      have d0 : decide ((0 : Int) ≤ -1) = false := by decide
      rw [show ((0 : Nat) : Int) - 1 = -1 from rfl]
      go_wp2
      clear d0
      have S1 := Aside0.mk H.out
      have HOUT := Aside0.mk hout
      have hlen : out.length = 8 := by rw [hout, bigL_len]
      clear hout H HO
      go_loopw [3, 5] (fun v3 v4 wr => ∃ (j : Nat) (out2 : List Int), v4 = .int .i64 ((j : Int) - 1) ∧ j ≤ 4 ∧ Aside0 (out2 ++ bigL j p.at_ = out ++ bigL 4 p.at_) ∧ out2.length + j ≤ 12 ∧ Aside0 (PS w v3 out2 (encP p) 56 wr)) (fun _ v _ => (intOf v + 1).toNat)
      case atStart => exact ⟨4, out, rfl, by omega, ⟨rfl⟩, by omega, S1⟩
      case round =>
        obtain ⟨j, out2, rfl, hj, HO, hlo2, H⟩ := hrel
        clear S1
        by_cases h0 : j = 0
        · subst h0
          have hout2 : out2 = keyL p := by have := HO.out; rw [bigL_zero, List.append_nil, HOUT.out] at this; exact this
          have d0 : decide ((0 : Int) ≤ -1) = false := by decide
          rw [show ((0 : Nat) : Int) - 1 = -1 from rfl]
          go_wp2
          rw [HP.out]
          exact ⟨_, rfl, by rw [← hout2]; exact H.out.row, H.out.below⟩
        · obtain ⟨m, rfl⟩ : ∃ m, j = m + 1 := ⟨j - 1, by omega⟩
          have em : ((m + 1 : Nat) : Int) - 1 = (m : Int) := by omega
          rw [em]
          have x0 : wr.cell? ⟨w.heap.size, 0, none⟩ = some (.int .i64 p.at_) := by rw [cell_of_row _ _ 0 _ 56 (0, 0) H.out.blk]; exact e0
          have hb := Aside0.mk (shift_byte p.at_ m)
          have HN := Aside0.mk (snoc_big (out := out2) (m := m) (K := 4) (n := p.at_) HO.out)
          clear HO em h0
          go_wp2_with (at_builtin; refine H.out.app1 (by decide) rfl (.tmp 24) (.tmp 32) rfl (p.at_ / 2 ^ (8 * m) % 256) rfl rfl (by omega) ?_; intro v7 w7 ho7 hg7; have H7 := Aside0.mk ho7; clear ho7 hg7)
          go_roundw
          case rel =>
            refine ⟨m, out2 ++ [p.at_ / 2 ^ (8 * m) % 256], rfl, by omega, ⟨?_⟩, by rw [List.length_append]; simp only [List.length_cons, List.length_nil]; omega, H7⟩
            rw [hb.out]
            exact HN.out
          case measure => simp [intOf]
    · obtain ⟨m, rfl⟩ : ∃ m, j = m + 1 := ⟨j - 1, by omega⟩
      have em : ((m + 1 : Nat) : Int) - 1 = (m : Int) := by omega
      rw [em]
      have x0 : wr.cell? ⟨w.heap.size, 1, none⟩ = some (.int .i64 p.birth) := by rw [cell_of_row _ _ 1 _ 56 (0, 0) H.out.blk]; exact e1
      have hb := Aside0.mk (shift_byte p.birth m)
      have HN := Aside0.mk (snoc_big (out := out) (m := m) (K := 8) (n := p.birth) HO.out)
      clear HO em h0
      go_wp2_with (at_builtin; refine H.out.app1 (by decide) rfl (.tmp 10) (.tmp 18) rfl (p.birth / 2 ^ (8 * m) % 256) rfl rfl (by omega) ?_; intro v7 w7 ho7 hg7; have H7 := Aside0.mk ho7; clear ho7 hg7)
      go_roundw
      case rel =>
        refine ⟨m, out ++ [p.birth / 2 ^ (8 * m) % 256], rfl, by omega, ⟨?_⟩, by rw [List.length_append]; simp only [List.length_cons, List.length_nil]; omega, H7⟩
        rw [hb.out]
        exact HN.out
      case measure => simp [intOf]
end Go.Proofs.Ytfefpbnhpncmlaa.DeaA
namespace Go.Proofs.Ytfefpbnhpncmlaa.DeaB
open Go.RowKit Go.Proofs.Ytfefpbnhpncmlaa.EntL Go.Proofs.Ytfefpbnhpncmlaa.EntB Go.Proofs.Ytfefpbnhpncmlaa.EntC Go.Proofs.Ytfefpbnhpncmlaa.EntD Go.Proofs.Ytfefpbnhpncmlaa.EntE Go.Proofs.Ytfefpbnhpncmlaa.EntF Go.Proofs.Ytfefpbnhpncmlaa.CatR Go.Proofs.Ytfefpbnhpncmlaa.CatT Go.Proofs.Ytfefpbnhpncmlaa.CatU Go.Proofs.Ytfefpbnhpncmlaa.CatK Go.Proofs.Ytfefpbnhpncmlaa.CatS Go.Proofs.Ytfefpbnhpncmlaa.CatY Go.Proofs.Ytfefpbnhpncmlaa.RefG Go.Proofs.Ytfefpbnhpncmlaa.PtrB Go.Proofs.Ytfefpbnhpncmlaa.PtrG Go.Proofs.Ytfefpbnhpncmlaa.Agg Go.Proofs.Ytfefpbnhpncmlaa.B8 Go.Proofs.Ytfefpbnhpncmlaa.CodL Go.Proofs.Ytfefpbnhpncmlaa.CodA Go.Proofs.Ytfefpbnhpncmlaa.CodB Go.Proofs.Ytfefpbnhpncmlaa.CatL Go.Proofs.Ytfefpbnhpncmlaa.PtrA Go.Proofs.Ytfefpbnhpncmlaa.PtrE Go.Proofs.Ytfefpbnhpncmlaa.PtrF Go.Proofs.Ytfefpbnhpncmlaa.PBaseSigns Go.Proofs.YtfefpbnhpncmlaaW.PrintWords Go.Proofs.YtfefpbnhpncmlaaW.PrintLast Go.Proofs.YtfefpbnhpncmlaaW.PrintMore Go.Proofs.Ytfefpbnhpncmlaa.EntG Go.Proofs.Ytfefpbnhpncmlaa.StmA Go.Proofs.Ytfefpbnhpncmlaa.StmB Go.Proofs.Ytfefpbnhpncmlaa.StmC Go.Proofs.Ytfefpbnhpncmlaa.CrcC Go.Proofs.Ytfefpbnhpncmlaa.StmD Go.Proofs.Ytfefpbnhpncmlaa.StmE Go.Proofs.Ytfefpbnhpncmlaa.CrcL Go.Proofs.Ytfefpbnhpncmlaa.StmL Go.Proofs.Ytfefpbnhpncmlaa.StmF Go.Proofs.Ytfefpbnhpncmlaa.StmG Go.Proofs.Ytfefpbnhpncmlaa.StmH Go.Proofs.Ytfefpbnhpncmlaa.StmI Go.Proofs.Ytfefpbnhpncmlaa.StmJ Go.Proofs.Ytfefpbnhpncmlaa.StmK Go.Proofs.Ytfefpbnhpncmlaa.StmM Go.Proofs.Ytfefpbnhpncmlaa.StmN Go.Proofs.Ytfefpbnhpncmlaa.StmO Go.Proofs.Ytfefpbnhpncmlaa.StmP Go.Proofs.Ytfefpbnhpncmlaa.StmP Go.Proofs.Ytfefpbnhpncmlaa.DeaA
set_option linter.unusedVariables false
set_option linter.unusedSimpArgs false

/-- Where Key stands. -/
structure KS (w : World) (p : Ptr) (g : Nat) (v : Value) (out : List Int) (W : World) : Prop where
  ps : PS w v out (encP p) 56 W
  cell : W.heap[g]? = some (.cells #[v] 31 (0, 0))
  ne : g ≠ w.heap.size
  gle : w.heap.size ≤ g
theorem KS.push {w : World} {p : Ptr} {g : Nat} {v v1 : Value} {out out1 : List Int} {W W1 : World} (h : KS w p g v out W) (h1 : PS w v1 out1 (encP p) 56 W1) (hg : W.grownBy W1 v.ownBlock) : KS w p g v1 out1 (W1.setCell ⟨g, 0, none⟩ v1) := by
  have e := blk_grown h.cell hg (Kd.R_ne h.ps.row h.cell (by decide))
  refine ⟨⟨Kd.R_mono (Kd.R_set h1.row e (by intro q hq; simp [Kd.int, Kd.scalar] at hq; omega) _ _) (fun _ _ => trivial), ?_, h1.below.setCell h.gle _⟩, ?_, h.ne, h.gle⟩
  · exact blk_far h1.blk (by simp; exact Ne.symm h.ne) _
  · rw [heap_setCell_same _ _ _ _ _ _ e]; rfl
theorem KS.drew {w : World} {p : Ptr} {g : Nat} {v : Value} {out : List Int} {W : World} (h : KS w p g v out W) : KS w p g v out W.drew :=
  ⟨h.ps.on (below_drew (Below.refl _ _)), blk_below h.cell (below_drew (Below.refl _ _)), h.ne, h.gle⟩
section
variable {ops : Array Oper} {o : Oper} {rest : List Oper} {a : Act} {Q : Exit → Act → World → Prop} {K : Act → World → Prop}
theorem wp_one8 {w : World} (x : Operand) (ho : o.op = .buildSlice 31 1 #[(0, x)]) (b : Int) (hx : a.eval x = .int .u8 b)
    (h : K (a.put o.dst (.slice (some ⟨w.heap.size, 0, none⟩) 1 1)) (w.alloc (.cells #[.int .u8 b] 5))) : o.wp Try.prog a w K Q := by
  unfold Oper.wp execOp
  have hm : (#[(0, x)] : Array (Nat × Operand)).map (fun (i, x) => (i, a.eval x)) = #[(0, .int .u8 b)] := by simp [hx]
  have hr : (Instr.buildSlice 31 1 #[(0, .int .u8 b)]).run Try.prog w = .ok (.slice (some ⟨w.heap.size, 0, none⟩) 1 1) (w.alloc (.cells #[.int .u8 b] 5)) := by kernel_rfl
  simp only [ho]
  rw [hm]
  simp only [Sem.run_bind, Sem.run_pure, Result.andThen_ok, hr]
  exact h
end
set_option maxRecDepth 100000 in
set_option maxHeartbeats 2000000 in
theorem lay_calls (w : World) (p : Ptr) (g : Nat) (v : Value) (out : List Int) (W : World) (n : Int) (size : Nat) (hs : size ≤ 8) (hl : out.length ≤ 20) (H : KS w p g v out W) :
    Calls Try.prog 79 #[.int .i64 n, .int .i64 (size : Int), .pointer (some ⟨g, 0, none⟩)] W fun e W' => e = .returned (.tuple #[]) ∧ ∃ v', KS w p g v' (out ++ bigL size n) W' := by
  have H0 := Aside0.mk H
  obtain ⟨P, hP⟩ : ∃ P : Ending → World → Prop, P = (fun e W' => e = .returned (.tuple #[]) ∧ ∃ v', KS w p g v' (out ++ bigL size n) W') := ⟨_, rfl⟩
  rw [← hP]
  have HP := Aside0.mk hP
  clear hP H
  go_enter Try.func79, Try.ntmps79
  go_wp2
  go_loopw [5] (fun v5 wr => ∃ (j : Nat) (out2 : List Int) (v2 : Value), v5 = .int .i64 ((j : Int) - 1) ∧ j ≤ size ∧ Aside0 (out2 ++ bigL j n = out ++ bigL size n) ∧ out2.length + j ≤ 28 ∧ Aside0 (KS w p g v2 out2 wr)) (fun v _ => (intOf v + 1).toNat)
  case atStart => exact ⟨size, out, v, rfl, Nat.le_refl _, ⟨rfl⟩, by omega, H0⟩
  case round =>
    obtain ⟨j, out2, v2, rfl, hj, HO, hlo, H⟩ := hrel
    clear H0
    by_cases h0 : j = 0
    · subst h0
      have hout2 : out2 = out ++ bigL size n := by have := HO.out; rw [bigL_zero, List.append_nil] at this; exact this
      have d0 : decide ((0 : Int) ≤ -1) = false := by decide
      rw [show ((0 : Nat) : Int) - 1 = -1 from rfl]
      go_wp2
      go_end0
      rw [HP.out]
      exact ⟨rfl, v2, by rw [← hout2]; exact H.out⟩
    · obtain ⟨m, rfl⟩ : ∃ m, j = m + 1 := ⟨j - 1, by omega⟩
      have em : ((m + 1 : Nat) : Int) - 1 = (m : Int) := by omega
      rw [em]
      have hb := Aside0.mk (shift_byte n m)
      have HN := Aside0.mk (snoc_big (out := out2) (m := m) (K := size) (n := n) HO.out)
      clear HO em h0
      go_wp2
      have HD := Aside0.mk (H.out.drew)
      clear H
      refine wp_region_held_drew (S := fun _ => True) (by kernel_rfl) trivial (fun _ => ?_)
      generalize hWd : wr.drew = Wd at *
      clear hWd
      refine wpAnyH_take (i := 1) (oi := ⟨some 13, _, _, _, _, _⟩) (v := .int .i64 n) rfl (by kernel_rfl) (by kernel_rfl) (by kernel_rfl) (fun _ _ _ h => h) (.inl ⟨by rfl, fun W1 h1 => by go_simp⟩) trivial ?_
      try simp only [Act.put, List.setIfInBounds_toArray, List.set_cons_zero, List.set_cons_succ]
      refine wpAnyH_take (i := 2) (oi := ⟨some 14, _, _, _, _, _⟩) (v := .int .i64 (m : Int)) rfl (by kernel_rfl) (by kernel_rfl) (by kernel_rfl) (fun _ _ _ h => h) (.inl ⟨by rfl, fun W1 h1 => by go_simp⟩) trivial ?_
      try simp only [Act.put, List.setIfInBounds_toArray, List.set_cons_zero, List.set_cons_succ]
      refine wpAnyH_take (i := 3) (oi := ⟨some 15, _, _, _, _, _⟩) (v := .int .i64 (8 * (m : Int))) rfl (by kernel_rfl) (by kernel_rfl) (by kernel_rfl) (fun _ _ _ h => h) (.inl ⟨by rfl, fun W1 h1 => by go_simp; rw [IntKind.wrap_i64]; omega⟩) trivial ?_
      try simp only [Act.put, List.setIfInBounds_toArray, List.set_cons_zero, List.set_cons_succ]
      refine wpAnyH_take (i := 4) (oi := ⟨some 16, _, _, _, _, _⟩) (v := .int .i64 (n / 2 ^ (8 * m))) rfl (by kernel_rfl) (by kernel_rfl) (by kernel_rfl) (fun _ _ _ h => h) (.inl ⟨by rfl, fun W1 h1 => by go_simp; rw [show (8 * (m : Int)).toNat = 8 * m by omega]⟩) trivial ?_
      try simp only [Act.put, List.setIfInBounds_toArray, List.set_cons_zero, List.set_cons_succ]
      refine wpAnyH_take (i := 5) (oi := ⟨some 17, _, _, _, _, _⟩) (v := .int .u8 (n / 2 ^ (8 * m) % 256)) rfl (by kernel_rfl) (by kernel_rfl) (by kernel_rfl) (fun _ _ _ h => h) (.inl ⟨by rfl, fun W1 h1 => by go_simp; rw [IntKind.wrap_u8]⟩) trivial ?_
      try simp only [Act.put, List.setIfInBounds_toArray, List.set_cons_zero, List.set_cons_succ]
      refine wpAnyH_ready (rs := [0, 6]) (by kernel_rfl) (by simp) (AllReadyH.cons rfl (fun J1 hJ1 => ?_) (AllReadyH.cons rfl (fun J2 hJ2 => ?_) AllReadyH.nil))
      · have xl : Wd.cell? ⟨g, 0, none⟩ = some v2 := by rw [cell_of_row _ _ 0 _ 31 (0, 0) HD.out.cell]; rfl
        go_simp
        refine hJ1.out _ _ trivial (fun _ => ?_)
        try simp only [Act.put, List.setIfInBounds_toArray, List.set_cons_zero, List.set_cons_succ]
        clear xl
        refine wpAnyH_ready (rs := [6]) (by kernel_rfl) (by simp) (AllReadyH.cons rfl (fun J3 hJ3 => ?_) AllReadyH.nil)
        refine wp_one8 (o := ⟨some 18, _, _, _, _, _⟩) (.tmp 17) rfl (n / 2 ^ (8 * m) % 256) rfl ?_
        refine hJ3.out _ _ trivial (fun _ => ?_)
        try simp only [Act.put, List.setIfInBounds_toArray, List.set_cons_zero, List.set_cons_succ]
        refine wpAnyH_ready (rs := [7]) (by kernel_rfl) (by simp) (AllReadyH.cons rfl (fun J4 hJ4 => ?_) AllReadyH.nil)
        refine wp_app1 (o := ⟨some 19, _, _, _, _, _⟩) HD.out.ps (by decide) (.tmp 12) (.tmp 18) rfl (n / 2 ^ (8 * m) % 256) rfl rfl (by omega) ?_
        intro v9 w9 hp9 hg9
        have H9 := Aside0.mk (HD.out.push hp9 hg9)
        have e9 := blk_grown HD.out.cell hg9 (Kd.R_ne HD.out.ps.row HD.out.cell (by decide))
        have x9 : w9.cell? ⟨g, 0, none⟩ = some v2 := by rw [cell_of_row _ _ 0 _ 31 (0, 0) e9]; rfl
        have f9 := frozen_of_row w9 g 0 _ 31 e9
        obtain ⟨A9, c9, hv9⟩ := Kd.R_slice hp9.row
        generalize (out2 ++ [_]).length = n9 at hv9
        subst hv9
        clear hp9 hg9 e9
        refine hJ4.out _ _ trivial (fun _ => ?_)
        try simp only [Act.put, List.setIfInBounds_toArray, List.set_cons_zero, List.set_cons_succ]
        refine wpAnyH_ready (rs := [8]) (by kernel_rfl) (by simp) (AllReadyH.cons rfl (fun J5 hJ5 => ?_) AllReadyH.nil)
        go_simp
        refine hJ5.out _ _ trivial (fun _ => ?_)
        try simp only [Act.put, List.setIfInBounds_toArray, List.set_cons_zero, List.set_cons_succ]
        refine wpAnyH_done (by kernel_rfl) ?_ _
        clear x9 f9
        go_wp2
        go_roundw
        case rel =>
          refine ⟨m, out2 ++ [n / 2 ^ (8 * m) % 256], _, rfl, by omega, ⟨?_⟩, by rw [List.length_append]; simp only [List.length_cons, List.length_nil]; omega, H9⟩
          rw [hb.out]
          exact HN.out
        case measure => simp [intOf]
      · refine wp_one8 (o := ⟨some 18, _, _, _, _, _⟩) (.tmp 17) rfl (n / 2 ^ (8 * m) % 256) rfl ?_
        refine hJ2.out _ _ trivial (fun _ => ?_)
        try simp only [Act.put, List.setIfInBounds_toArray, List.set_cons_zero, List.set_cons_succ]
        refine wpAnyH_ready (rs := [0]) (by kernel_rfl) (by simp) (AllReadyH.cons rfl (fun J3 hJ3 => ?_) AllReadyH.nil)
        have xl : (Wd.alloc (.cells #[.int .u8 (n / 2 ^ (8 * m) % 256)] 5)).cell? ⟨g, 0, none⟩ = some v2 := by rw [cell_of_row _ _ 0 _ 31 (0, 0) (blk_alloc HD.out.cell _)]; rfl
        go_simp
        refine hJ3.out _ _ trivial (fun _ => ?_)
        try simp only [Act.put, List.setIfInBounds_toArray, List.set_cons_zero, List.set_cons_succ]
        clear xl
        refine wpAnyH_ready (rs := [7]) (by kernel_rfl) (by simp) (AllReadyH.cons rfl (fun J4 hJ4 => ?_) AllReadyH.nil)
        refine wp_app1 (o := ⟨some 19, _, _, _, _, _⟩) HD.out.ps (by decide) (.tmp 12) (.tmp 18) rfl (n / 2 ^ (8 * m) % 256) rfl rfl (by omega) ?_
        intro v9 w9 hp9 hg9
        have H9 := Aside0.mk (HD.out.push hp9 hg9)
        have e9 := blk_grown HD.out.cell hg9 (Kd.R_ne HD.out.ps.row HD.out.cell (by decide))
        have x9 : w9.cell? ⟨g, 0, none⟩ = some v2 := by rw [cell_of_row _ _ 0 _ 31 (0, 0) e9]; rfl
        have f9 := frozen_of_row w9 g 0 _ 31 e9
        obtain ⟨A9, c9, hv9⟩ := Kd.R_slice hp9.row
        generalize (out2 ++ [_]).length = n9 at hv9
        subst hv9
        clear hp9 hg9 e9
        refine hJ4.out _ _ trivial (fun _ => ?_)
        try simp only [Act.put, List.setIfInBounds_toArray, List.set_cons_zero, List.set_cons_succ]
        refine wpAnyH_ready (rs := [8]) (by kernel_rfl) (by simp) (AllReadyH.cons rfl (fun J5 hJ5 => ?_) AllReadyH.nil)
        go_simp
        refine hJ5.out _ _ trivial (fun _ => ?_)
        try simp only [Act.put, List.setIfInBounds_toArray, List.set_cons_zero, List.set_cons_succ]
        refine wpAnyH_done (by kernel_rfl) ?_ _
        clear x9 f9
        go_wp2
        go_roundw
        case rel =>
          refine ⟨m, out2 ++ [n / 2 ^ (8 * m) % 256], _, rfl, by omega, ⟨?_⟩, by rw [List.length_append]; simp only [List.length_cons, List.length_nil]; omega, H9⟩
          rw [hb.out]
          exact HN.out
        case measure => simp [intOf]
end Go.Proofs.Ytfefpbnhpncmlaa.DeaB
namespace Go.Proofs.Ytfefpbnhpncmlaa.DeaN
open Go.RowKit Go.Proofs.Ytfefpbnhpncmlaa.EntL Go.Proofs.Ytfefpbnhpncmlaa.EntB Go.Proofs.Ytfefpbnhpncmlaa.EntC Go.Proofs.Ytfefpbnhpncmlaa.EntD Go.Proofs.Ytfefpbnhpncmlaa.EntE Go.Proofs.Ytfefpbnhpncmlaa.EntF Go.Proofs.Ytfefpbnhpncmlaa.CatR Go.Proofs.Ytfefpbnhpncmlaa.CatT Go.Proofs.Ytfefpbnhpncmlaa.CatU Go.Proofs.Ytfefpbnhpncmlaa.CatK Go.Proofs.Ytfefpbnhpncmlaa.CatS Go.Proofs.Ytfefpbnhpncmlaa.CatY Go.Proofs.Ytfefpbnhpncmlaa.RefG Go.Proofs.Ytfefpbnhpncmlaa.PtrB Go.Proofs.Ytfefpbnhpncmlaa.PtrG Go.Proofs.Ytfefpbnhpncmlaa.Agg Go.Proofs.Ytfefpbnhpncmlaa.B8 Go.Proofs.Ytfefpbnhpncmlaa.CodL Go.Proofs.Ytfefpbnhpncmlaa.CodA Go.Proofs.Ytfefpbnhpncmlaa.CodB Go.Proofs.Ytfefpbnhpncmlaa.CatL Go.Proofs.Ytfefpbnhpncmlaa.PtrA Go.Proofs.Ytfefpbnhpncmlaa.PtrE Go.Proofs.Ytfefpbnhpncmlaa.PtrF Go.Proofs.Ytfefpbnhpncmlaa.PBaseSigns Go.Proofs.YtfefpbnhpncmlaaW.PrintWords Go.Proofs.YtfefpbnhpncmlaaW.PrintLast Go.Proofs.YtfefpbnhpncmlaaW.PrintMore Go.Proofs.Ytfefpbnhpncmlaa.EntG Go.Proofs.Ytfefpbnhpncmlaa.StmA Go.Proofs.Ytfefpbnhpncmlaa.StmB Go.Proofs.Ytfefpbnhpncmlaa.StmC Go.Proofs.Ytfefpbnhpncmlaa.CrcC Go.Proofs.Ytfefpbnhpncmlaa.StmD Go.Proofs.Ytfefpbnhpncmlaa.StmE Go.Proofs.Ytfefpbnhpncmlaa.CrcL Go.Proofs.Ytfefpbnhpncmlaa.StmL Go.Proofs.Ytfefpbnhpncmlaa.StmF Go.Proofs.Ytfefpbnhpncmlaa.StmG Go.Proofs.Ytfefpbnhpncmlaa.StmH Go.Proofs.Ytfefpbnhpncmlaa.StmI Go.Proofs.Ytfefpbnhpncmlaa.StmJ Go.Proofs.Ytfefpbnhpncmlaa.StmK Go.Proofs.Ytfefpbnhpncmlaa.StmM Go.Proofs.Ytfefpbnhpncmlaa.StmN Go.Proofs.Ytfefpbnhpncmlaa.StmO Go.Proofs.Ytfefpbnhpncmlaa.StmP Go.Proofs.Ytfefpbnhpncmlaa.StmP Go.Proofs.Ytfefpbnhpncmlaa.DeaA Go.Proofs.Ytfefpbnhpncmlaa.DeaB
set_option linter.unusedVariables false
set_option linter.unusedSimpArgs false

/-- A number of its bytes, the greatest first. -/
def bigN : List Int → Nat
  | [] => 0
  | a :: l => a.toNat * 256 ^ l.length + bigN l
theorem bigN_lt {l : List Int} (h : Byt l) : bigN l < 256 ^ l.length := by
  induction l with
  | nil => simp [bigN]
  | cons a l ih =>
    have h1 := ih (fun x hx => h x (List.mem_cons_of_mem _ hx))
    have h2 := h a (List.mem_cons_self ..)
    rw [bigN, List.length_cons, Nat.pow_succ]
    have h3 : a.toNat ≤ 255 := by omega
    have h4 : a.toNat * 256 ^ l.length ≤ 255 * 256 ^ l.length := Nat.mul_le_mul_right _ h3
    omega
theorem head_lt {a b K x y : Nat} (hab : a < b) (hx : x < K) : a * K + x < b * K + y := by
  have : (a + 1) * K ≤ b * K := Nat.mul_le_mul_right _ hab
  rw [Nat.add_mul, Nat.one_mul] at this
  omega
def tri (a b : Nat) : Int := if a < b then -1 else if a = b then 0 else 1
theorem tri_add (z a b : Nat) : tri (z + a) (z + b) = tri a b := by
  unfold tri
  simp only [Nat.add_lt_add_iff_left, Nat.add_left_cancel_iff]
theorem toU8_lt {a b : Int} (ha : 0 ≤ a ∧ a < 256) (hb : 0 ≤ b ∧ b < 256) : (a.toNat.toUInt8 < b.toNat.toUInt8) ↔ a < b := by
  rw [UInt8.lt_iff_toNat_lt, UInt8.toNat_ofNat', UInt8.toNat_ofNat', Nat.mod_eq_of_lt (by omega), Nat.mod_eq_of_lt (by omega)]
  omega
theorem cmp_big : ∀ (l m : List Int), Byt l → Byt m → l.length = m.length → Lib.compareBytes (Lib.bytesOf l) (Lib.bytesOf m) = tri (bigN l) (bigN m)
  | [], [], _, _, _ => rfl
  | a :: l, b :: m, hl, hm, he => by
    have ih := cmp_big l m (fun x hx => hl x (List.mem_cons_of_mem _ hx)) (fun x hx => hm x (List.mem_cons_of_mem _ hx)) (by simpa using he)
    have ha := hl a (List.mem_cons_self ..)
    have hb := hm b (List.mem_cons_self ..)
    have hl2 := bigN_lt (l := l) (fun x hx => hl x (List.mem_cons_of_mem _ hx))
    have hm2 := bigN_lt (l := m) (fun x hx => hm x (List.mem_cons_of_mem _ hx))
    have hlen : l.length = m.length := by simpa using he
    have e : Lib.compareBytes (Lib.bytesOf (a :: l)) (Lib.bytesOf (b :: m)) = if a.toNat.toUInt8 < b.toNat.toUInt8 then -1 else if b.toNat.toUInt8 < a.toNat.toUInt8 then 1 else Lib.compareBytes (Lib.bytesOf l) (Lib.bytesOf m) := rfl
    rw [e, ih]
    simp only [toU8_lt ha hb, toU8_lt hb ha, bigN]
    rw [hlen] at hl2 ⊢
    by_cases h1 : a < b
    · have := head_lt (x := bigN l) (y := bigN m) (show a.toNat < b.toNat by omega) hl2
      rw [if_pos h1, tri, if_pos this]
    · rw [if_neg h1]
      by_cases h2 : b < a
      · have := head_lt (x := bigN m) (y := bigN l) (show b.toNat < a.toNat by omega) hm2
        rw [if_pos h2, tri, if_neg (by omega), if_neg (by omega)]
      · obtain rfl : a = b := by omega
        rw [if_neg h2, tri_add]
theorem bigN_inj : ∀ (l m : List Int), Byt l → Byt m → l.length = m.length → bigN l = bigN m → l = m
  | [], [], _, _, _, _ => rfl
  | a :: l, b :: m, hl, hm, he, h => by
    have ha := hl a (List.mem_cons_self ..)
    have hb := hm b (List.mem_cons_self ..)
    have hl2 := bigN_lt (l := l) (fun x hx => hl x (List.mem_cons_of_mem _ hx))
    have hm2 := bigN_lt (l := m) (fun x hx => hm x (List.mem_cons_of_mem _ hx))
    have hlen : l.length = m.length := by simpa using he
    simp only [bigN] at h
    rw [hlen] at hl2 h
    have hab : a = b := by
      by_cases h1 : a < b
      · have := head_lt (x := bigN l) (y := bigN m) (show a.toNat < b.toNat by omega) hl2
        omega
      · by_cases h2 : b < a
        · have := head_lt (x := bigN m) (y := bigN l) (show b.toNat < a.toNat by omega) hm2
          omega
        · omega
    subst hab
    have := bigN_inj l m (fun x hx => hl x (List.mem_cons_of_mem _ hx)) (fun x hx => hm x (List.mem_cons_of_mem _ hx)) hlen (by omega)
    rw [this]
/-- A block's key as a number. -/
def keyN (p : Ptr) : Nat := bigN (keyL p)
theorem key_eq {p q : Ptr} : keyL p = keyL q ↔ keyN p = keyN q :=
  ⟨fun h => by unfold keyN; rw [h], fun h => bigN_inj _ _ (keyL_byt p) (keyL_byt q) (by rw [keyL_len, keyL_len]) h⟩
theorem key_cmp (p q : Ptr) : Lib.compareBytes (Lib.bytesOf (keyL p)) (Lib.bytesOf (keyL q)) = tri (keyN p) (keyN q) :=
  cmp_big _ _ (keyL_byt p) (keyL_byt q) (by rw [keyL_len, keyL_len])
/-- What the library's entry reads. -/
theorem bytesOf_run {A : Option Addr} {n c : Nat} {l : List Int} {w : World} (h : C8 w A n l) (h0 : 0 < n) : (Extern.Bytes.bytesOf (.slice A n c)).run Try.prog w = .ok ⟨(Lib.bytesOf l).toArray⟩ w := by
  obtain ⟨b, off, rfl, _, hc⟩ := C_at 0 h h0
  have hlen : l.length = n := h.1
  have hl := Lib.run_loadBytesX (P := Try.prog) w l ⟨b, off, none⟩ .empty (fun j x hj => by
    have hjl : j < l.length := (List.getElem?_eq_some_iff.1 hj).1
    have e : (⟨b, off, none⟩ : Addr).add j = ⟨b, off + j, none⟩ := by unfold Addr.add; split <;> simp_all
    rw [e, hc j (by omega), List.getD_eq_getElem?_getD, hj]
    rfl)
  rw [hlen] at hl
  have he : (⟨ByteArray.empty.data ++ (Lib.bytesOf l).toArray⟩ : ByteArray) = ⟨(Lib.bytesOf l).toArray⟩ := by
    apply ByteArray.ext
    show (#[] : Array UInt8) ++ (Lib.bytesOf l).toArray = (Lib.bytesOf l).toArray
    simp
  rw [he] at hl
  exact hl
theorem compare_run {A B : Option Addr} {n m c d : Nat} {l k : List Int} {w : World} (h1 : C8 w A n l) (h2 : C8 w B m k) (hn : 0 < n) (hm : 0 < m) :
    (Extern.BytealgCompare.compare #[.slice A n c, .slice B m d]).run Try.prog w = .ok (.int .i64 (Lib.compareBytes (Lib.bytesOf l) (Lib.bytesOf k))) w := by
  change Sem.run Try.prog (do pure (goInt (Extern.BytealgCompare.cmp (← Extern.Bytes.bytesOf (.slice A n c)) (← Extern.Bytes.bytesOf (.slice B m d))))) w = _
  simp only [Sem.run_bind, bytesOf_run h1 hn, bytesOf_run h2 hm, Sem.run_pure, Result.andThen]
  rw [Lib.cmp_eq]
  rfl
end Go.Proofs.Ytfefpbnhpncmlaa.DeaN
namespace Go.Proofs.Ytfefpbnhpncmlaa.DeaC
open Go.RowKit Go.Proofs.Ytfefpbnhpncmlaa.EntL Go.Proofs.Ytfefpbnhpncmlaa.EntB Go.Proofs.Ytfefpbnhpncmlaa.EntC Go.Proofs.Ytfefpbnhpncmlaa.EntD Go.Proofs.Ytfefpbnhpncmlaa.EntE Go.Proofs.Ytfefpbnhpncmlaa.EntF Go.Proofs.Ytfefpbnhpncmlaa.CatR Go.Proofs.Ytfefpbnhpncmlaa.CatT Go.Proofs.Ytfefpbnhpncmlaa.CatU Go.Proofs.Ytfefpbnhpncmlaa.CatK Go.Proofs.Ytfefpbnhpncmlaa.CatS Go.Proofs.Ytfefpbnhpncmlaa.CatY Go.Proofs.Ytfefpbnhpncmlaa.RefG Go.Proofs.Ytfefpbnhpncmlaa.PtrB Go.Proofs.Ytfefpbnhpncmlaa.PtrG Go.Proofs.Ytfefpbnhpncmlaa.Agg Go.Proofs.Ytfefpbnhpncmlaa.B8 Go.Proofs.Ytfefpbnhpncmlaa.CodL Go.Proofs.Ytfefpbnhpncmlaa.CodA Go.Proofs.Ytfefpbnhpncmlaa.CodB Go.Proofs.Ytfefpbnhpncmlaa.CatL Go.Proofs.Ytfefpbnhpncmlaa.PtrA Go.Proofs.Ytfefpbnhpncmlaa.PtrE Go.Proofs.Ytfefpbnhpncmlaa.PtrF Go.Proofs.Ytfefpbnhpncmlaa.PBaseSigns Go.Proofs.YtfefpbnhpncmlaaW.PrintWords Go.Proofs.YtfefpbnhpncmlaaW.PrintLast Go.Proofs.YtfefpbnhpncmlaaW.PrintMore Go.Proofs.Ytfefpbnhpncmlaa.EntG Go.Proofs.Ytfefpbnhpncmlaa.StmA Go.Proofs.Ytfefpbnhpncmlaa.StmB Go.Proofs.Ytfefpbnhpncmlaa.StmC Go.Proofs.Ytfefpbnhpncmlaa.CrcC Go.Proofs.Ytfefpbnhpncmlaa.StmD Go.Proofs.Ytfefpbnhpncmlaa.StmE Go.Proofs.Ytfefpbnhpncmlaa.CrcL Go.Proofs.Ytfefpbnhpncmlaa.StmL Go.Proofs.Ytfefpbnhpncmlaa.StmF Go.Proofs.Ytfefpbnhpncmlaa.StmG Go.Proofs.Ytfefpbnhpncmlaa.StmH Go.Proofs.Ytfefpbnhpncmlaa.StmI Go.Proofs.Ytfefpbnhpncmlaa.StmJ Go.Proofs.Ytfefpbnhpncmlaa.StmK Go.Proofs.Ytfefpbnhpncmlaa.StmM Go.Proofs.Ytfefpbnhpncmlaa.StmN Go.Proofs.Ytfefpbnhpncmlaa.StmO Go.Proofs.Ytfefpbnhpncmlaa.StmP Go.Proofs.Ytfefpbnhpncmlaa.StmP Go.Proofs.Ytfefpbnhpncmlaa.DeaA Go.Proofs.Ytfefpbnhpncmlaa.DeaB Go.Proofs.Ytfefpbnhpncmlaa.DeaN
set_option linter.unusedVariables false
set_option linter.unusedSimpArgs false

set_option maxRecDepth 100000 in
set_option maxHeartbeats 2000000 in
theorem key_calls (p : Ptr) (hp : Ok p) (w : World) : Calls Try.prog 38 #[.agg (encP p)] w (Tells w (keyL p)) := by
  have B0 := Aside0.mk (below_alloc (Below.refl w.heap.size w) (.cells (encP p) 56))
  have G0 := Aside0.mk (blk_new w (.cells (encP p) 56))
  have e1 : (encP p)[1]? = some (.int .i64 p.birth) := by simp [encP]
  have e0 : (encP p)[0]? = some (.int .i64 p.at_) := by simp [encP]
  obtain ⟨P, hP⟩ : ∃ P : Ending → World → Prop, P = Tells w (keyL p) := ⟨_, rfl⟩
  rw [← hP]
  have HP := Aside0.mk hP
  clear hP
  go_enter Try.func38, Try.ntmps38
  have hs1 : (w.alloc (.cells (encP p) 56)).heap.size = w.heap.size + 1 := by simp
  have K1 := Aside0.mk (⟨⟨Kd.R_nil _ _ _ _ _, blk_alloc G0.out _, B0.out.alloc B0.out.size _⟩, by have := blk_new (w.alloc (.cells (encP p) 56)) (.cells #[.slice none 0 0] 31); rw [hs1] at this; exact this, by omega, by omega⟩ : KS w p (w.heap.size + 1) (.slice none 0 0) [] ((w.alloc (.cells (encP p) 56)).alloc (.cells #[.slice none 0 0] 31)))
  have x1 : ((w.alloc (.cells (encP p) 56)).alloc (.cells #[.slice none 0 0] 31)).cell? ⟨w.heap.size, 1, none⟩ = some (.int .i64 p.birth) := by rw [cell_of_row _ _ 1 _ 56 (0, 0) K1.out.ps.blk]; exact e1
  clear B0 G0
  go_wp2_with fail
  generalize hW1 : ((w.alloc (.cells (encP p) 56)).alloc (.cells #[.slice none 0 0] 31)) = W1 at *
  clear hW1 x1
  refine (lay_calls w p (w.heap.size + 1) (.slice none 0 0) [] W1 p.birth 8 (by decide) (by simp) K1.out).mono ?_
  rintro e W2 ⟨rfl, v2, h2⟩
  have K2 := Aside0.mk h2
  have x0 : W2.cell? ⟨w.heap.size, 0, none⟩ = some (.int .i64 p.at_) := by rw [cell_of_row _ _ 0 _ 56 (0, 0) h2.ps.blk]; exact e0
  clear h2 K1
  go_wp2_with fail
  clear x0
  refine (lay_calls w p (w.heap.size + 1) v2 ([] ++ bigL 8 p.birth) W2 p.at_ 4 (by decide) (by rw [List.nil_append, bigL_len]; decide) K2.out).mono ?_
  rintro e W3 ⟨rfl, v3, h3⟩
  have K3 := Aside0.mk h3
  have x3 : W3.cell? ⟨w.heap.size + 1, 0, none⟩ = some v3 := by rw [cell_of_row _ _ 0 _ 31 (0, 0) h3.cell]; rfl
  clear h3 K2
  go_wp2
  rw [HP.out]
  exact ⟨v3, rfl, K3.out.ps.row, K3.out.ps.below⟩
set_option maxRecDepth 100000 in
theorem bcmp_calls (A B : Option Addr) (n m c d : Nat) (l k : List Int) (w : World) (h1 : C8 w A n l) (h2 : C8 w B m k) (hn : 0 < n) (hm : 0 < m) :
    Calls Try.prog 115 #[.slice A n c, .slice B m d] w fun e w' => e = .returned (.int .i64 (Lib.compareBytes (Lib.bytesOf l) (Lib.bytesOf k))) ∧ w' = w := by
  have hr := compare_run (c := c) (d := d) h1 h2 hn hm
  obtain ⟨P, hP⟩ : ∃ P : Ending → World → Prop, P = (fun e w' => e = .returned (.int .i64 (Lib.compareBytes (Lib.bytesOf l) (Lib.bytesOf k))) ∧ w' = w) := ⟨_, rfl⟩
  rw [← hP]
  have HP := Aside0.mk hP
  clear hP h1 h2
  go_enter Try.func115, Try.ntmps115
  go_wp2_with fail
  rw [run_callFunc_extern Try.func130 (by kernel_rfl) (by kernel_rfl) (by kernel_rfl) (e := Extern.BytealgCompare.compare) (by kernel_rfl), hr]
  simp only [Result.andThen]
  rw [Oper.upon_value]
  go_wp2
  rw [HP.out]
  exact ⟨rfl, rfl⟩
set_option maxRecDepth 100000 in
set_option maxHeartbeats 2000000 in
theorem compare_calls (p q : Ptr) (hp : Ok p) (hq : Ok q) (w : World) : Calls Try.prog 82 #[.agg (encP p), .agg (encP q)] w fun e w' => e = .returned (.int .i64 (tri (keyN p) (keyN q))) ∧ Below w.heap.size w w' := by
  have hs1 : (w.alloc (.cells (encP p) 56)).heap.size = w.heap.size + 1 := by simp
  have g0 := blk_alloc (blk_new w (.cells (encP p) 56)) (.cells (encP q) 56)
  have g1 : ((w.alloc (.cells (encP p) 56)).alloc (.cells (encP q) 56)).heap[w.heap.size + 1]? = some (.cells (encP q) 56 (0, 0)) := by have := blk_new (w.alloc (.cells (encP p) 56)) (.cells (encP q) 56); rw [hs1] at this; exact this
  have b0 := ((Below.refl w.heap.size w).alloc (Nat.le_refl _) (.cells (encP p) 56)).alloc (by omega) (.cells (encP q) 56)
  obtain ⟨P, hP⟩ : ∃ P : Ending → World → Prop, P = (fun e w' => e = .returned (.int .i64 (tri (keyN p) (keyN q))) ∧ Below w.heap.size w w') := ⟨_, rfl⟩
  rw [← hP]
  have HP := Aside0.mk hP
  have G0 := Aside0.mk (blk_below g0 (below_drew (Below.refl _ _)))
  have G1 := Aside0.mk (blk_below g1 (below_drew (Below.refl _ _)))
  have B0 := Aside0.mk (below_then b0 b0.size (below_drew (Below.refl _ _)))
  clear hP g0 g1 b0 hs1
  go_enter Try.func82, Try.ntmps82
  go_wp2
  refine wp_region_held_drew (S := fun w' => Below ((w.alloc (.cells (encP p) 56)).alloc (.cells (encP q) 56)).drew.heap.size ((w.alloc (.cells (encP p) 56)).alloc (.cells (encP q) 56)).drew w') (by kernel_rfl) (Below.refl _ _) (fun hW => ?_)
  generalize hW0 : ((w.alloc (.cells (encP p) 56)).alloc (.cells (encP q) 56)).drew = W0 at *
  clear hW0
  refine wpAnyH_take (i := 0) (oi := ⟨some 5, _, _, _, _, _⟩) rfl (by kernel_rfl) (by kernel_rfl) (by kernel_rfl) (fun _ _ _ h => h) (yieldsIf_load_row (by rfl) 56 _ rfl w.heap.size rfl 56 (encP p) (0, 0) _ (fun _ h => blk_below G0.out h) Try.underlying56 rfl (si hp.len)) hW ?_
  try simp only [Act.put, List.setIfInBounds_toArray, List.set_cons_zero, List.set_cons_succ]
  refine wpAnyH_take (i := 2) (oi := ⟨some 7, _, _, _, _, _⟩) rfl (by kernel_rfl) (by kernel_rfl) (by kernel_rfl) (fun _ _ _ h => h) (yieldsIf_load_row (by rfl) 56 _ rfl (w.heap.size + 1) rfl 56 (encP q) (0, 0) _ (fun _ h => blk_below G1.out h) Try.underlying56 rfl (si hq.len)) hW ?_
  try simp only [Act.put, List.setIfInBounds_toArray, List.set_cons_zero, List.set_cons_succ]
  refine wpAnyH_ready (rs := [1]) (by kernel_rfl) (by simp) (AllReadyH.cons rfl (fun K1 hK1 => ?_) AllReadyH.nil)
  go_simp
  refine (key_calls p hp W0).mono ?_
  rintro e W1 ⟨v1, rfl, hr1, hb1⟩
  refine hK1.out _ _ (below_then hW hW.size hb1) (fun hW => ?_)
  try simp only [Act.put, List.setIfInBounds_toArray, List.set_cons_zero, List.set_cons_succ]
  refine wpAnyH_ready (rs := [3]) (by kernel_rfl) (by simp) (AllReadyH.cons rfl (fun K2 hK2 => ?_) AllReadyH.nil)
  go_simp
  refine (key_calls q hq W1).mono ?_
  rintro e W2 ⟨v2, rfl, hr2, hb2⟩
  obtain ⟨A1, c1, rfl, _, hC1⟩ := Kd.R_reads hr1
  obtain ⟨A2, c2, rfl, _, hC2⟩ := Kd.R_reads hr2
  rw [keyL_len] at hC1 hC2
  have HC := Aside0.mk (And.intro (Kd.C_below hC1 hb2) hC2)
  rw [keyL_len, keyL_len]
  clear hC1 hC2 hr1 hr2
  refine hK2.out _ _ (below_then hW hW.size hb2) (fun hW => ?_)
  try simp only [Act.put, List.setIfInBounds_toArray, List.set_cons_zero, List.set_cons_succ]
  refine wpAnyH_ready (rs := [4]) (by kernel_rfl) (by simp) (AllReadyH.cons rfl (fun K3 hK3 => ?_) AllReadyH.nil)
  go_simp
  refine (bcmp_calls A1 A2 12 12 c1 c2 (keyL p) (keyL q) W2 HC.out.1 HC.out.2 (by decide) (by decide)).mono ?_
  rintro e W3 ⟨rfl, rfl⟩
  rw [key_cmp]
  refine hK3.out _ _ hW (fun hW => ?_)
  try simp only [Act.put, List.setIfInBounds_toArray, List.set_cons_zero, List.set_cons_succ]
  refine wpAnyH_take (i := 5) (oi := ⟨some 4, _, _, _, _, _⟩) (v := .int .i64 (tri (keyN p) (keyN q))) rfl (by kernel_rfl) (by kernel_rfl) (by kernel_rfl) (fun _ _ _ h => h) (.inl ⟨by rfl, fun W1 h1 => by go_simp⟩) hW ?_
  try simp only [Act.put, List.setIfInBounds_toArray, List.set_cons_zero, List.set_cons_succ]
  refine wpAnyH_done (by kernel_rfl) ?_ _
  have HF := Aside0.mk (below_then B0.out B0.out.size hW)
  clear hW hb1 hb2 hK1 hK2 hK3 K1 K2 K3
  go_wp2
  rw [HP.out]
  exact ⟨rfl, HF.out⟩
set_option maxRecDepth 100000 in
set_option maxHeartbeats 2000000 in
theorem same_key_calls (p q : Ptr) (hp : Ok p) (hq : Ok q) (w : World) : Calls Try.prog 84 #[.agg (encP p), .agg (encP q)] w fun e w' => e = .returned (.bool (decide (keyN p = keyN q))) ∧ Below w.heap.size w w' := by
  have hs1 : (w.alloc (.cells (encP p) 56)).heap.size = w.heap.size + 1 := by simp
  have G0 := Aside0.mk (blk_alloc (blk_new w (.cells (encP p) 56)) (.cells (encP q) 56))
  have G1 : Aside0 (((w.alloc (.cells (encP p) 56)).alloc (.cells (encP q) 56)).heap[w.heap.size + 1]? = some (.cells (encP q) 56 (0, 0))) := ⟨by have := blk_new (w.alloc (.cells (encP p) 56)) (.cells (encP q) 56); rw [hs1] at this; exact this⟩
  have B0 := Aside0.mk (((Below.refl w.heap.size w).alloc (Nat.le_refl _) (.cells (encP p) 56)).alloc (by omega) (.cells (encP q) 56))
  obtain ⟨P, hP⟩ : ∃ P : Ending → World → Prop, P = (fun e w' => e = .returned (.bool (decide (keyN p = keyN q))) ∧ Below w.heap.size w w') := ⟨_, rfl⟩
  rw [← hP]
  have HP := Aside0.mk hP
  clear hP hs1
  go_enter Try.func84, Try.ntmps84
  go_wp2_with (first | (refine load_P1 rfl (.tmp 2) rfl w.heap.size p rfl hp G0.out ?_) | (refine load_P1 rfl (.tmp 3) rfl (w.heap.size + 1) q rfl hq G1.out ?_))
  generalize ((w.alloc (.cells (encP p) 56)).alloc (.cells (encP q) 56)) = W0 at *
  refine (compare_calls p q hp hq W0).mono ?_
  rintro e W1 ⟨rfl, hb1⟩
  have HF := Aside0.mk (below_then B0.out B0.out.size hb1)
  have ht : (tri (keyN p) (keyN q) == 0) = decide (keyN p = keyN q) := by
    unfold tri
    by_cases h1 : keyN p < keyN q
    · rw [if_pos h1, decide_eq_false (by omega)]; rfl
    · rw [if_neg h1]
      by_cases h2 : keyN p = keyN q
      · rw [if_pos h2, decide_eq_true h2]; rfl
      · rw [if_neg h2, decide_eq_false h2]; rfl
  clear hb1 G0 G1
  go_wp2
  rw [HP.out]
  exact ⟨rfl, HF.out⟩
end Go.Proofs.Ytfefpbnhpncmlaa.DeaC
namespace Go.Proofs.Ytfefpbnhpncmlaa.DeaR
open Go.RowKit Go.Proofs.Ytfefpbnhpncmlaa.EntL Go.Proofs.Ytfefpbnhpncmlaa.EntB Go.Proofs.Ytfefpbnhpncmlaa.EntC Go.Proofs.Ytfefpbnhpncmlaa.EntD Go.Proofs.Ytfefpbnhpncmlaa.EntE Go.Proofs.Ytfefpbnhpncmlaa.EntF Go.Proofs.Ytfefpbnhpncmlaa.CatR Go.Proofs.Ytfefpbnhpncmlaa.CatT Go.Proofs.Ytfefpbnhpncmlaa.CatU Go.Proofs.Ytfefpbnhpncmlaa.CatK Go.Proofs.Ytfefpbnhpncmlaa.CatS Go.Proofs.Ytfefpbnhpncmlaa.CatY Go.Proofs.Ytfefpbnhpncmlaa.RefG Go.Proofs.Ytfefpbnhpncmlaa.PtrB Go.Proofs.Ytfefpbnhpncmlaa.PtrG Go.Proofs.Ytfefpbnhpncmlaa.Agg Go.Proofs.Ytfefpbnhpncmlaa.B8 Go.Proofs.Ytfefpbnhpncmlaa.CodL Go.Proofs.Ytfefpbnhpncmlaa.CodA Go.Proofs.Ytfefpbnhpncmlaa.CodB Go.Proofs.Ytfefpbnhpncmlaa.CatL Go.Proofs.Ytfefpbnhpncmlaa.PtrA Go.Proofs.Ytfefpbnhpncmlaa.PtrE Go.Proofs.Ytfefpbnhpncmlaa.PtrF Go.Proofs.Ytfefpbnhpncmlaa.PBaseSigns Go.Proofs.YtfefpbnhpncmlaaW.PrintWords Go.Proofs.YtfefpbnhpncmlaaW.PrintLast Go.Proofs.YtfefpbnhpncmlaaW.PrintMore Go.Proofs.Ytfefpbnhpncmlaa.EntG Go.Proofs.Ytfefpbnhpncmlaa.StmA Go.Proofs.Ytfefpbnhpncmlaa.StmB Go.Proofs.Ytfefpbnhpncmlaa.StmC Go.Proofs.Ytfefpbnhpncmlaa.CrcC Go.Proofs.Ytfefpbnhpncmlaa.StmD Go.Proofs.Ytfefpbnhpncmlaa.StmE Go.Proofs.Ytfefpbnhpncmlaa.CrcL Go.Proofs.Ytfefpbnhpncmlaa.StmL Go.Proofs.Ytfefpbnhpncmlaa.StmF Go.Proofs.Ytfefpbnhpncmlaa.StmG Go.Proofs.Ytfefpbnhpncmlaa.StmH Go.Proofs.Ytfefpbnhpncmlaa.StmI Go.Proofs.Ytfefpbnhpncmlaa.StmJ Go.Proofs.Ytfefpbnhpncmlaa.StmK Go.Proofs.Ytfefpbnhpncmlaa.StmM Go.Proofs.Ytfefpbnhpncmlaa.StmN Go.Proofs.Ytfefpbnhpncmlaa.StmO Go.Proofs.Ytfefpbnhpncmlaa.StmP Go.Proofs.Ytfefpbnhpncmlaa.StmP Go.Proofs.Ytfefpbnhpncmlaa.DeaA Go.Proofs.Ytfefpbnhpncmlaa.DeaB Go.Proofs.Ytfefpbnhpncmlaa.DeaN Go.Proofs.Ytfefpbnhpncmlaa.DeaC
set_option linter.unusedVariables false
set_option linter.unusedSimpArgs false

/-- Where a row in its place stands. -/
structure DR (B : World) (g n cap : Nat) (l : List Ptr) (W : World) : Prop where
  row : Kd.R kP 56 W B.heap.size (fun _ => True) (.slice (some ⟨g, 0, none⟩) n cap) l
  below : Below B.heap.size B W
theorem DR.len {B : World} {g n cap : Nat} {l : List Ptr} {W : World} (h : DR B g n cap l W) : l.length = n := (Kd.R_reads' h.row).1.symm
theorem DR.gle {B : World} {g n cap : Nat} {l : List Ptr} {W : World} (h : DR B g n cap l W) : B.heap.size ≤ g := Kd.R_base h.row g (by simp [Value.ownBlock])
theorem DR.on {B : World} {g n cap : Nat} {l : List Ptr} {W W1 : World} (h : DR B g n cap l W) (hb : Below W.heap.size W W1) : DR B g n cap l W1 :=
  ⟨Kd.R_below h.row hb, below_then h.below h.below.size hb⟩
theorem DR.at_ {B : World} {g n cap : Nat} {l : List Ptr} {W : World} (h : DR B g n cap l W) (i : Nat) (hi : i < n) : Ok (l.getD i zeroP) ∧ W.rangeAt g (i * 36) (encP (l.getD i zeroP)).toList := by
  obtain ⟨h1, _, h3⟩ := Kd.R_reads' h.row
  rw [← h1] at h3
  obtain ⟨b, off, e, _, hx⟩ := CP_at h3 (by omega)
  cases e
  have := hx i hi
  rw [Nat.zero_add] at this
  exact this
theorem DR.store {B : World} {g n cap : Nat} {l : List Ptr} {W : World} (h : DR B g n cap l W) (i : Nat) (hi : i < n) (q : Ptr) (hq : Ok q) : DR B g n cap (l.set i q) (W.setCells g (i * 36) (encP q).toList) := by
  obtain ⟨ho, hr⟩ := h.at_ i hi
  have hl := enc_len ho
  have hlq := enc_len hq
  obtain ⟨h1, h2⟩ := Kd.R_seg (d := kP) (x' := q) (okp := fun _ => False) h.row (i : Int) (by omega) (by omega) (c := (encP (l.getD i zeroP)).toList) (seg := (encP q).toList) (j := 0) hl
    (fun j u hu => by rw [Int.toNat_natCast]; exact hr j u hu) (by rw [hlq]; exact Nat.le_refl 36)
    (by rw [List.take_zero, List.nil_append, List.drop_of_length_le (by rw [hl, hlq]; decide), List.append_nil]; exact ⟨rfl, hq⟩) (fun _ h => h.elim)
  rw [Int.toNat_natCast] at h1 h2
  refine ⟨h1, h.below.trans ⟨h2.os, h2.tape, h2.output, h2.size, fun k hk => h2.block k ?_ (fun he => by injection he with he; have := h.gle; omega)⟩⟩
  exact Nat.lt_of_lt_of_le hk h.below.size
/-- The two are exchanged. -/
def sw (l : List Ptr) (i j : Nat) : List Ptr := (l.set i (l.getD j zeroP)).set j (l.getD i zeroP)
theorem DR.there {B : World} {g n cap : Nat} {l : List Ptr} {W : World} (h : DR B g n cap l W) (i : Nat) (hi : i < n) : W.there g (i * 36) 36 := by
  intro j hj
  obtain ⟨ho, hr⟩ := h.at_ i hi
  have hl := enc_len ho
  have hc := hr j _ (List.getElem?_eq_getElem (by omega))
  have hn := h.len
  obtain ⟨g', c', e, _, _, cells, hb⟩ := Kd.R_form h.row (by omega)
  simp only [Value.slice.injEq, Option.some.injEq, Addr.mk.injEq] at e
  obtain ⟨⟨rfl, _⟩, _⟩ := e
  exact ⟨by rw [hc]; rfl, frozen_of_row W g (i * 36 + j) _ 56 hb⟩
section
variable {ops : Array Oper} {o : Oper} {rest : List Oper} {a : Act} {Q : Exit → Act → World → Prop} {K : Act → World → Prop}
theorem wp_load_P {w : World} (x : Operand) (ho : o.op = .load 56 x) (b off : Nat) (p : Ptr) (hx : a.eval x = .pointer (some ⟨b, off, none⟩)) (hk : Ok p) (hc : w.rangeAt b off (encP p).toList)
    (h : K (a.put o.dst (.agg (encP p))) w) : o.wp Try.prog a w K Q := by
  have := wp_load_mid (P := Try.prog) (op := o) (a := a) (Q := Q) (K := K) 56 x ho b off hx (encP p).toList _ hc Try.underlying56 rfl (by rw [enc_len hk]; kernel_rfl) (by simpa using h)
  exact this
end
/-- So many pairs are exchanged. -/
def swR (l : List Ptr) (a b : Nat) : Nat → List Ptr
  | 0 => l
  | n + 1 => sw (swR l a b n) (a + n) (b + n)
set_option maxRecDepth 100000 in
set_option maxHeartbeats 2000000 in
theorem swapRange_calls (B : World) (g nn cap : Nat) (l : List Ptr) (W : World) (F : Value) (a b n : Nat) (hab : a + n ≤ b) (hbn : b + n ≤ nn) (hn : nn ≤ 1000) (H : DR B g nn cap l W) :
    Calls Try.prog 134 #[.slice (some ⟨g, 0, none⟩) nn cap, .int .i64 (a : Int), .int .i64 (b : Int), .int .i64 (n : Int), F] W fun e W' => e = .returned (.tuple #[]) ∧ DR B g nn cap (swR l a b n) W' := by
  have H0 := Aside0.mk H
  obtain ⟨P, hP⟩ : ∃ P : Ending → World → Prop, P = (fun e W' => e = .returned (.tuple #[]) ∧ DR B g nn cap (swR l a b n) W') := ⟨_, rfl⟩
  rw [← hP]
  have HP := Aside0.mk hP
  clear hP H
  go_enter Try.func134, Try.ntmps134
  go_wp2
  go_loopw [10] (fun v10 wr => ∃ (i : Nat), v10 = .int .i64 (i : Int) ∧ i ≤ n ∧ Aside0 (DR B g nn cap (swR l a b i) wr)) (fun v _ => n - (intOf v).toNat)
  case atStart => exact ⟨0, rfl, Nat.zero_le _, H0⟩
  case round =>
    obtain ⟨i, rfl, hi, H⟩ := hrel
    clear H0
    by_cases hlt : i < n
    · have di : decide ((i : Int) < (n : Int)) = true := decide_eq_true (by omega)
      go_wp2
      have HD := Aside0.mk (H.out.on (below_drew (Below.refl wr.heap.size wr)))
      clear H
      obtain ⟨lc, hlc⟩ : ∃ lc, lc = swR l a b i := ⟨_, rfl⟩
      have HLC := Aside0.mk hlc
      rw [← hlc] at HD
      clear hlc
      obtain ⟨pa, hpa⟩ : ∃ pa, pa = lc.getD (a + i) zeroP := ⟨_, rfl⟩
      obtain ⟨pb, hpb⟩ : ∃ pb, pb = lc.getD (b + i) zeroP := ⟨_, rfl⟩
      have HDk := Aside0.mk (And.intro (HD.out.at_ (a + i) (by omega)) (HD.out.at_ (b + i) (by omega)))
      rw [← hpa, ← hpb] at HDk
      have HSW := Aside0.mk (show (lc.set (a + i) pb).set (b + i) pa = swR l a b (i + 1) by rw [swR, sw, ← HLC.out, hpa, hpb])
      clear hpa hpb
      refine wp_region_held_drew (S := fun _ => True) (by kernel_rfl) trivial (fun _ => ?_)
      generalize hWd : wr.drew = Wd at *
      clear hWd
      refine wpAnyH_take (i := 0) (oi := ⟨some 16, _, _, _, _, _⟩) (v := .slice (some ⟨g, 0, none⟩) nn cap) rfl (by kernel_rfl) (by kernel_rfl) (by kernel_rfl) (fun _ _ _ h => h) (.inl ⟨by rfl, fun W1 h1 => by go_simp⟩) trivial ?_
      try simp only [Act.put, List.setIfInBounds_toArray, List.set_cons_zero, List.set_cons_succ]
      refine wpAnyH_take (i := 1) (oi := ⟨some 17, _, _, _, _, _⟩) (v := .int .i64 (a : Int)) rfl (by kernel_rfl) (by kernel_rfl) (by kernel_rfl) (fun _ _ _ h => h) (.inl ⟨by rfl, fun W1 h1 => by go_simp⟩) trivial ?_
      try simp only [Act.put, List.setIfInBounds_toArray, List.set_cons_zero, List.set_cons_succ]
      refine wpAnyH_take (i := 2) (oi := ⟨some 18, _, _, _, _, _⟩) (v := .int .i64 (i : Int)) rfl (by kernel_rfl) (by kernel_rfl) (by kernel_rfl) (fun _ _ _ h => h) (.inl ⟨by rfl, fun W1 h1 => by go_simp⟩) trivial ?_
      try simp only [Act.put, List.setIfInBounds_toArray, List.set_cons_zero, List.set_cons_succ]
      refine wpAnyH_take (i := 3) (oi := ⟨some 19, _, _, _, _, _⟩) (v := .int .i64 ((a : Int) + (i : Int))) rfl (by kernel_rfl) (by kernel_rfl) (by kernel_rfl) (fun _ _ _ h => h) (.inl ⟨by rfl, fun W1 h1 => by go_simp; rw [IntKind.wrap_i64]; omega⟩) trivial ?_
      try simp only [Act.put, List.setIfInBounds_toArray, List.set_cons_zero, List.set_cons_succ]
      refine wpAnyH_take (i := 4) (oi := ⟨some 20, _, _, _, _, _⟩) (v := .slice (some ⟨g, 0, none⟩) nn cap) rfl (by kernel_rfl) (by kernel_rfl) (by kernel_rfl) (fun _ _ _ h => h) (.inl ⟨by rfl, fun W1 h1 => by go_simp⟩) trivial ?_
      try simp only [Act.put, List.setIfInBounds_toArray, List.set_cons_zero, List.set_cons_succ]
      refine wpAnyH_take (i := 5) (oi := ⟨some 21, _, _, _, _, _⟩) (v := .int .i64 (b : Int)) rfl (by kernel_rfl) (by kernel_rfl) (by kernel_rfl) (fun _ _ _ h => h) (.inl ⟨by rfl, fun W1 h1 => by go_simp⟩) trivial ?_
      try simp only [Act.put, List.setIfInBounds_toArray, List.set_cons_zero, List.set_cons_succ]
      refine wpAnyH_take (i := 6) (oi := ⟨some 22, _, _, _, _, _⟩) (v := .int .i64 (i : Int)) rfl (by kernel_rfl) (by kernel_rfl) (by kernel_rfl) (fun _ _ _ h => h) (.inl ⟨by rfl, fun W1 h1 => by go_simp⟩) trivial ?_
      try simp only [Act.put, List.setIfInBounds_toArray, List.set_cons_zero, List.set_cons_succ]
      refine wpAnyH_take (i := 7) (oi := ⟨some 23, _, _, _, _, _⟩) (v := .int .i64 ((b : Int) + (i : Int))) rfl (by kernel_rfl) (by kernel_rfl) (by kernel_rfl) (fun _ _ _ h => h) (.inl ⟨by rfl, fun W1 h1 => by go_simp; rw [IntKind.wrap_i64]; omega⟩) trivial ?_
      try simp only [Act.put, List.setIfInBounds_toArray, List.set_cons_zero, List.set_cons_succ]
      refine wpAnyH_take (i := 8) (oi := ⟨some 24, _, _, _, _, _⟩) (v := .slice (some ⟨g, 0, none⟩) nn cap) rfl (by kernel_rfl) (by kernel_rfl) (by kernel_rfl) (fun _ _ _ h => h) (.inl ⟨by rfl, fun W1 h1 => by go_simp⟩) trivial ?_
      try simp only [Act.put, List.setIfInBounds_toArray, List.set_cons_zero, List.set_cons_succ]
      refine wpAnyH_take (i := 9) (oi := ⟨some 25, _, _, _, _, _⟩) (v := .int .i64 (b : Int)) rfl (by kernel_rfl) (by kernel_rfl) (by kernel_rfl) (fun _ _ _ h => h) (.inl ⟨by rfl, fun W1 h1 => by go_simp⟩) trivial ?_
      try simp only [Act.put, List.setIfInBounds_toArray, List.set_cons_zero, List.set_cons_succ]
      refine wpAnyH_take (i := 10) (oi := ⟨some 26, _, _, _, _, _⟩) (v := .int .i64 (i : Int)) rfl (by kernel_rfl) (by kernel_rfl) (by kernel_rfl) (fun _ _ _ h => h) (.inl ⟨by rfl, fun W1 h1 => by go_simp⟩) trivial ?_
      try simp only [Act.put, List.setIfInBounds_toArray, List.set_cons_zero, List.set_cons_succ]
      refine wpAnyH_take (i := 11) (oi := ⟨some 27, _, _, _, _, _⟩) (v := .int .i64 ((b : Int) + (i : Int))) rfl (by kernel_rfl) (by kernel_rfl) (by kernel_rfl) (fun _ _ _ h => h) (.inl ⟨by rfl, fun W1 h1 => by go_simp; rw [IntKind.wrap_i64]; omega⟩) trivial ?_
      try simp only [Act.put, List.setIfInBounds_toArray, List.set_cons_zero, List.set_cons_succ]
      refine wpAnyH_take (i := 12) (oi := ⟨some 28, _, _, _, _, _⟩) (v := .pointer (some ⟨g, (b + i) * 36, none⟩)) rfl (by kernel_rfl) (by kernel_rfl) (by kernel_rfl) (fun _ _ _ h => h) (.inl ⟨by rfl, fun W1 h1 => by go_simp; rw [if_pos (by omega), show ((b : Int) + (i : Int)).toNat = b + i by omega]⟩) trivial ?_
      try simp only [Act.put, List.setIfInBounds_toArray, List.set_cons_zero, List.set_cons_succ]
      refine wpAnyH_take (i := 14) (oi := ⟨some 30, _, _, _, _, _⟩) (v := .slice (some ⟨g, 0, none⟩) nn cap) rfl (by kernel_rfl) (by kernel_rfl) (by kernel_rfl) (fun _ _ _ h => h) (.inl ⟨by rfl, fun W1 h1 => by go_simp⟩) trivial ?_
      try simp only [Act.put, List.setIfInBounds_toArray, List.set_cons_zero, List.set_cons_succ]
      refine wpAnyH_take (i := 15) (oi := ⟨some 31, _, _, _, _, _⟩) (v := .int .i64 (a : Int)) rfl (by kernel_rfl) (by kernel_rfl) (by kernel_rfl) (fun _ _ _ h => h) (.inl ⟨by rfl, fun W1 h1 => by go_simp⟩) trivial ?_
      try simp only [Act.put, List.setIfInBounds_toArray, List.set_cons_zero, List.set_cons_succ]
      refine wpAnyH_take (i := 16) (oi := ⟨some 32, _, _, _, _, _⟩) (v := .int .i64 (i : Int)) rfl (by kernel_rfl) (by kernel_rfl) (by kernel_rfl) (fun _ _ _ h => h) (.inl ⟨by rfl, fun W1 h1 => by go_simp⟩) trivial ?_
      try simp only [Act.put, List.setIfInBounds_toArray, List.set_cons_zero, List.set_cons_succ]
      refine wpAnyH_take (i := 17) (oi := ⟨some 33, _, _, _, _, _⟩) (v := .int .i64 ((a : Int) + (i : Int))) rfl (by kernel_rfl) (by kernel_rfl) (by kernel_rfl) (fun _ _ _ h => h) (.inl ⟨by rfl, fun W1 h1 => by go_simp; rw [IntKind.wrap_i64]; omega⟩) trivial ?_
      try simp only [Act.put, List.setIfInBounds_toArray, List.set_cons_zero, List.set_cons_succ]
      refine wpAnyH_take (i := 18) (oi := ⟨some 34, _, _, _, _, _⟩) (v := .pointer (some ⟨g, (a + i) * 36, none⟩)) rfl (by kernel_rfl) (by kernel_rfl) (by kernel_rfl) (fun _ _ _ h => h) (.inl ⟨by rfl, fun W1 h1 => by go_simp; rw [if_pos (by omega), show ((a : Int) + (i : Int)).toNat = a + i by omega]⟩) trivial ?_
      try simp only [Act.put, List.setIfInBounds_toArray, List.set_cons_zero, List.set_cons_succ]
      refine wpAnyH_ready (rs := [13, 19]) (by kernel_rfl) (by simp) (AllReadyH.cons rfl (fun L1 hL1 => ?_) (AllReadyH.cons rfl (fun L2 hL2 => ?_) AllReadyH.nil))
      · refine wp_load_P (o := ⟨some 29, _, _, _, _, _⟩) _ rfl g ((b + i) * 36) pb rfl HDk.out.2.1 HDk.out.2.2 ?_
        refine hL1.out _ _ trivial (fun _ => ?_)
        try simp only [Act.put, List.setIfInBounds_toArray, List.set_cons_zero, List.set_cons_succ]
        refine wpAnyH_ready (rs := [19]) (by kernel_rfl) (by simp) (AllReadyH.cons rfl (fun L3 hL3 => ?_) AllReadyH.nil)
        refine wp_load_P (o := ⟨some 35, _, _, _, _, _⟩) _ rfl g ((a + i) * 36) pa rfl HDk.out.1.1 HDk.out.1.2 ?_
        refine hL3.out _ _ trivial (fun _ => ?_)
        try simp only [Act.put, List.setIfInBounds_toArray, List.set_cons_zero, List.set_cons_succ]
        refine wpAnyH_take (i := 20) (oi := ⟨some 36, _, _, _, _, _⟩) (v := .pointer (some ⟨g, (a + i) * 36, none⟩)) rfl (by kernel_rfl) (by kernel_rfl) (by kernel_rfl) (fun _ _ _ h => h) (.inl ⟨by rfl, fun W1 h1 => by go_simp; rw [if_pos (by omega), show ((a : Int) + (i : Int)).toNat = a + i by omega]⟩) trivial ?_
        try simp only [Act.put, List.setIfInBounds_toArray, List.set_cons_zero, List.set_cons_succ]
        refine wpAnyH_ready (rs := [21]) (by kernel_rfl) (by simp) (AllReadyH.cons rfl (fun S1 hS1 => ?_) AllReadyH.nil)
        refine wp_store_mid (op := ⟨none, _, _, _, _, _⟩) 56 _ _ rfl g ((a + i) * 36) (encP pb) rfl rfl (by rw [encP_size HDk.out.2.1.len]; exact HD.out.there (a + i) (by omega)) (si HDk.out.2.1.len) (PtrJ.a_enc pb) ?_
        have HD1 := Aside0.mk (HD.out.store (a + i) (by omega) pb HDk.out.2.1)
        refine hS1.out _ _ trivial (fun _ => ?_)
        try simp only [Act.put, List.setIfInBounds_toArray, List.set_cons_zero, List.set_cons_succ]
        generalize hW1 : Wd.setCells g ((a + i) * 36) (encP pb).toList = Ws1 at *
        clear hW1
        refine wpAnyH_take (i := 22) (oi := ⟨some 37, _, _, _, _, _⟩) (v := .pointer (some ⟨g, (b + i) * 36, none⟩)) rfl (by kernel_rfl) (by kernel_rfl) (by kernel_rfl) (fun _ _ _ h => h) (.inl ⟨by rfl, fun W1 h1 => by go_simp; rw [if_pos (by omega), show ((b : Int) + (i : Int)).toNat = b + i by omega]⟩) trivial ?_
        try simp only [Act.put, List.setIfInBounds_toArray, List.set_cons_zero, List.set_cons_succ]
        refine wpAnyH_ready (rs := [23]) (by kernel_rfl) (by simp) (AllReadyH.cons rfl (fun S2 hS2 => ?_) AllReadyH.nil)
        refine wp_store_mid (op := ⟨none, _, _, _, _, _⟩) 56 _ _ rfl g ((b + i) * 36) (encP pa) rfl rfl (by rw [encP_size HDk.out.1.1.len]; exact HD1.out.there (b + i) (by omega)) (si HDk.out.1.1.len) (PtrJ.a_enc pa) ?_
        have HD2 := Aside0.mk (HD1.out.store (b + i) (by omega) pa HDk.out.1.1)
        refine hS2.out _ _ trivial (fun _ => ?_)
        try simp only [Act.put, List.setIfInBounds_toArray, List.set_cons_zero, List.set_cons_succ]
        generalize hW2 : Ws1.setCells g ((b + i) * 36) (encP pa).toList = Ws2 at *
        clear hW2
        refine wpAnyH_done (by kernel_rfl) ?_ _
        go_wp2
        go_roundw
        case rel => exact ⟨i + 1, by go_num, by omega, ⟨by rw [← HSW.out]; exact HD2.out⟩⟩
        case measure => simp [intOf]; omega
      · refine wp_load_P (o := ⟨some 35, _, _, _, _, _⟩) _ rfl g ((a + i) * 36) pa rfl HDk.out.1.1 HDk.out.1.2 ?_
        refine hL2.out _ _ trivial (fun _ => ?_)
        try simp only [Act.put, List.setIfInBounds_toArray, List.set_cons_zero, List.set_cons_succ]
        refine wpAnyH_ready (rs := [13]) (by kernel_rfl) (by simp) (AllReadyH.cons rfl (fun L3 hL3 => ?_) AllReadyH.nil)
        refine wp_load_P (o := ⟨some 29, _, _, _, _, _⟩) _ rfl g ((b + i) * 36) pb rfl HDk.out.2.1 HDk.out.2.2 ?_
        refine hL3.out _ _ trivial (fun _ => ?_)
        try simp only [Act.put, List.setIfInBounds_toArray, List.set_cons_zero, List.set_cons_succ]
        refine wpAnyH_take (i := 20) (oi := ⟨some 36, _, _, _, _, _⟩) (v := .pointer (some ⟨g, (a + i) * 36, none⟩)) rfl (by kernel_rfl) (by kernel_rfl) (by kernel_rfl) (fun _ _ _ h => h) (.inl ⟨by rfl, fun W1 h1 => by go_simp; rw [if_pos (by omega), show ((a : Int) + (i : Int)).toNat = a + i by omega]⟩) trivial ?_
        try simp only [Act.put, List.setIfInBounds_toArray, List.set_cons_zero, List.set_cons_succ]
        refine wpAnyH_ready (rs := [21]) (by kernel_rfl) (by simp) (AllReadyH.cons rfl (fun S1 hS1 => ?_) AllReadyH.nil)
        refine wp_store_mid (op := ⟨none, _, _, _, _, _⟩) 56 _ _ rfl g ((a + i) * 36) (encP pb) rfl rfl (by rw [encP_size HDk.out.2.1.len]; exact HD.out.there (a + i) (by omega)) (si HDk.out.2.1.len) (PtrJ.a_enc pb) ?_
        have HD1 := Aside0.mk (HD.out.store (a + i) (by omega) pb HDk.out.2.1)
        refine hS1.out _ _ trivial (fun _ => ?_)
        try simp only [Act.put, List.setIfInBounds_toArray, List.set_cons_zero, List.set_cons_succ]
        generalize hW1 : Wd.setCells g ((a + i) * 36) (encP pb).toList = Ws1 at *
        clear hW1
        refine wpAnyH_take (i := 22) (oi := ⟨some 37, _, _, _, _, _⟩) (v := .pointer (some ⟨g, (b + i) * 36, none⟩)) rfl (by kernel_rfl) (by kernel_rfl) (by kernel_rfl) (fun _ _ _ h => h) (.inl ⟨by rfl, fun W1 h1 => by go_simp; rw [if_pos (by omega), show ((b : Int) + (i : Int)).toNat = b + i by omega]⟩) trivial ?_
        try simp only [Act.put, List.setIfInBounds_toArray, List.set_cons_zero, List.set_cons_succ]
        refine wpAnyH_ready (rs := [23]) (by kernel_rfl) (by simp) (AllReadyH.cons rfl (fun S2 hS2 => ?_) AllReadyH.nil)
        refine wp_store_mid (op := ⟨none, _, _, _, _, _⟩) 56 _ _ rfl g ((b + i) * 36) (encP pa) rfl rfl (by rw [encP_size HDk.out.1.1.len]; exact HD1.out.there (b + i) (by omega)) (si HDk.out.1.1.len) (PtrJ.a_enc pa) ?_
        have HD2 := Aside0.mk (HD1.out.store (b + i) (by omega) pa HDk.out.1.1)
        refine hS2.out _ _ trivial (fun _ => ?_)
        try simp only [Act.put, List.setIfInBounds_toArray, List.set_cons_zero, List.set_cons_succ]
        generalize hW2 : Ws1.setCells g ((b + i) * 36) (encP pa).toList = Ws2 at *
        clear hW2
        refine wpAnyH_done (by kernel_rfl) ?_ _
        go_wp2
        go_roundw
        case rel => exact ⟨i + 1, by go_num, by omega, ⟨by rw [← HSW.out]; exact HD2.out⟩⟩
        case measure => simp [intOf]; omega
    · obtain rfl : i = n := by omega
      have di : decide ((i : Int) < (i : Int)) = false := decide_eq_false (by omega)
      go_wp2
      go_end0
      rw [HP.out]
      exact ⟨rfl, H.out⟩
end Go.Proofs.Ytfefpbnhpncmlaa.DeaR
namespace Go.Proofs.Ytfefpbnhpncmlaa.DeaS
open Go.RowKit Go.Proofs.Ytfefpbnhpncmlaa.EntL Go.Proofs.Ytfefpbnhpncmlaa.EntB Go.Proofs.Ytfefpbnhpncmlaa.EntC Go.Proofs.Ytfefpbnhpncmlaa.EntD Go.Proofs.Ytfefpbnhpncmlaa.EntE Go.Proofs.Ytfefpbnhpncmlaa.EntF Go.Proofs.Ytfefpbnhpncmlaa.CatR Go.Proofs.Ytfefpbnhpncmlaa.CatT Go.Proofs.Ytfefpbnhpncmlaa.CatU Go.Proofs.Ytfefpbnhpncmlaa.CatK Go.Proofs.Ytfefpbnhpncmlaa.CatS Go.Proofs.Ytfefpbnhpncmlaa.CatY Go.Proofs.Ytfefpbnhpncmlaa.RefG Go.Proofs.Ytfefpbnhpncmlaa.PtrB Go.Proofs.Ytfefpbnhpncmlaa.PtrG Go.Proofs.Ytfefpbnhpncmlaa.Agg Go.Proofs.Ytfefpbnhpncmlaa.B8 Go.Proofs.Ytfefpbnhpncmlaa.CodL Go.Proofs.Ytfefpbnhpncmlaa.CodA Go.Proofs.Ytfefpbnhpncmlaa.CodB Go.Proofs.Ytfefpbnhpncmlaa.CatL Go.Proofs.Ytfefpbnhpncmlaa.PtrA Go.Proofs.Ytfefpbnhpncmlaa.PtrE Go.Proofs.Ytfefpbnhpncmlaa.PtrF Go.Proofs.Ytfefpbnhpncmlaa.PBaseSigns Go.Proofs.YtfefpbnhpncmlaaW.PrintWords Go.Proofs.YtfefpbnhpncmlaaW.PrintLast Go.Proofs.YtfefpbnhpncmlaaW.PrintMore Go.Proofs.Ytfefpbnhpncmlaa.EntG Go.Proofs.Ytfefpbnhpncmlaa.StmA Go.Proofs.Ytfefpbnhpncmlaa.StmB Go.Proofs.Ytfefpbnhpncmlaa.StmC Go.Proofs.Ytfefpbnhpncmlaa.CrcC Go.Proofs.Ytfefpbnhpncmlaa.StmD Go.Proofs.Ytfefpbnhpncmlaa.StmE Go.Proofs.Ytfefpbnhpncmlaa.CrcL Go.Proofs.Ytfefpbnhpncmlaa.StmL Go.Proofs.Ytfefpbnhpncmlaa.StmF Go.Proofs.Ytfefpbnhpncmlaa.StmG Go.Proofs.Ytfefpbnhpncmlaa.StmH Go.Proofs.Ytfefpbnhpncmlaa.StmI Go.Proofs.Ytfefpbnhpncmlaa.StmJ Go.Proofs.Ytfefpbnhpncmlaa.StmK Go.Proofs.Ytfefpbnhpncmlaa.StmM Go.Proofs.Ytfefpbnhpncmlaa.StmN Go.Proofs.Ytfefpbnhpncmlaa.StmO Go.Proofs.Ytfefpbnhpncmlaa.StmP Go.Proofs.Ytfefpbnhpncmlaa.StmP Go.Proofs.Ytfefpbnhpncmlaa.DeaA Go.Proofs.Ytfefpbnhpncmlaa.DeaB Go.Proofs.Ytfefpbnhpncmlaa.DeaN Go.Proofs.Ytfefpbnhpncmlaa.DeaC Go.Proofs.Ytfefpbnhpncmlaa.DeaR Go.Proofs.Ytfefpbnhpncmlaa.DeaL
set_option linter.unusedVariables false
set_option linter.unusedSimpArgs false

theorem getD_mid (u : List Ptr) (y : Ptr) (v : List Ptr) (i : Nat) (h : i = u.length) : (u ++ y :: v).getD i zeroP = y := by
  subst h
  rw [List.getD_eq_getElem?_getD, List.getElem?_append_right (Nat.le_refl _)]; simp
theorem getD_mid2 (u : List Ptr) (y x : Ptr) (v : List Ptr) (i : Nat) (h : i = u.length + 1) : (u ++ y :: x :: v).getD i zeroP = x := by
  subst h
  rw [List.getD_eq_getElem?_getD, List.getElem?_append_right (by omega)]; simp
theorem set_two (u : List Ptr) (y x : Ptr) (v : List Ptr) (i m : Nat) (h : m = u.length) (hi : i = m + 1) : ((u ++ y :: x :: v).set i y).set m x = u ++ x :: y :: v := by
  subst h hi
  rw [List.set_append_right _ _ (by omega), List.set_append_right _ _ (by omega)]
  simp
theorem blk_g {B : World} {g n cap : Nat} {l : List Ptr} {W : World} (h : DR B g n cap l W) : g < W.heap.size := Kd.R_lt h.row g (by simp [Value.ownBlock])
theorem insS_split {x : Ptr} {S1 S2 : List Ptr} (h2 : ∀ y ∈ S2, keyN x < keyN y) (h1 : ∀ y ∈ S1, keyN y ≤ keyN x) : insS keyN x (S1 ++ S2) = S1 ++ x :: S2 := by
  induction S1 with
  | nil =>
    cases S2 with
    | nil => rfl
    | cons y r => rw [List.nil_append, insS, if_pos (h2 y (List.mem_cons_self ..))]; rfl
  | cons y r ih =>
    rw [List.cons_append, insS, if_neg (by have := h1 y (List.mem_cons_self ..); omega), ih (fun z hz => h1 z (List.mem_cons_of_mem _ hz))]
    rfl
theorem tri_neg (a b : Nat) : decide (tri a b < 0) = decide (a < b) := by
  unfold tri
  by_cases h1 : a < b
  · rw [if_pos h1, decide_eq_true h1]; rfl
  · rw [if_neg h1, decide_eq_false h1]
    by_cases h2 : a = b
    · rw [if_pos h2]; rfl
    · rw [if_neg h2]; rfl
set_option maxRecDepth 100000 in
set_option maxHeartbeats 8000000 in
theorem insertion_calls (B : World) (g nn cap : Nat) (pre seg post : List Ptr) (W : World) (a b : Nat) (ha : a = pre.length) (hb : b = a + seg.length) (hn : nn ≤ 1000) (H : DR B g nn cap (pre ++ (seg ++ post)) W) :
    Calls Try.prog 128 #[.slice (some ⟨g, 0, none⟩) nn cap, .int .i64 (a : Int), .int .i64 (b : Int), .func (.func 82) #[] #[]] W fun e W' => e = .returned (.tuple #[]) ∧ DR B g nn cap (pre ++ (stab keyN seg ++ post)) W' := by
  have hlen : nn = pre.length + (seg.length + post.length) := by have := H.len; rw [List.length_append, List.length_append] at this; omega
  have H0 := Aside0.mk H
  have HE := Aside0.mk (And.intro ha (And.intro hb hlen))
  have hbn : b ≤ nn := by omega
  have han : a ≤ nn := by omega
  clear ha hb hlen
  obtain ⟨P, hP⟩ : ∃ P : Ending → World → Prop, P = (fun e W' => e = .returned (.tuple #[]) ∧ DR B g nn cap (pre ++ (stab keyN seg ++ post)) W') := ⟨_, rfl⟩
  rw [← hP]
  have HP := Aside0.mk hP
  clear hP H
  go_enter Try.func128, Try.ntmps128
  go_wp2
  go_loopw [8] (fun v8 wr => ∃ (i : Nat), v8 = .int .i64 (i : Int) ∧ a + 1 ≤ i ∧ (i ≤ b ∨ i = a + 1) ∧ Aside0 (DR B g nn cap (pre ++ (stab keyN (seg.take (i - a)) ++ (seg.drop (i - a) ++ post))) wr)) (fun v _ => b - (intOf v).toNat)
  case atStart =>
    refine ⟨a + 1, by go_num, Nat.le_refl _, .inr rfl, ⟨?_⟩⟩
    have e : stab keyN (seg.take (a + 1 - a)) = seg.take (a + 1 - a) := stab_srt _ (by
      rw [show a + 1 - a = 1 by omega]
      cases seg with
      | nil => exact List.Pairwise.nil
      | cons y r => rw [List.take_succ_cons, List.take_zero]; exact List.pairwise_cons.2 ⟨fun _ h => by simp at h, List.Pairwise.nil⟩)
    rw [e, ← List.append_assoc (seg.take (a + 1 - a)), List.take_append_drop]
    exact H0.out
  case round =>
    obtain ⟨i, rfl, hi1, hi2, H⟩ := hrel
    clear H0
    by_cases hlt : i < b
    · have di : decide ((i : Int) < (b : Int)) = true := decide_eq_true (by omega)
      obtain ⟨x, hx⟩ : ∃ x, x = seg.getD (i - a) zeroP := ⟨_, rfl⟩
      have hdrop : seg.drop (i - a) = x :: seg.drop (i + 1 - a) := by
        have hlt' : i - a < seg.length := by have := HE.out; omega
        rw [hx, List.getD_eq_getElem?_getD, List.getElem?_eq_getElem hlt', show i + 1 - a = i - a + 1 by omega]
        exact List.drop_eq_getElem_cons hlt'
      have htake : seg.take (i + 1 - a) = seg.take (i - a) ++ [x] := by
        have hlt' : i - a < seg.length := by have := HE.out; omega
        rw [show i + 1 - a = i - a + 1 by omega, List.take_add_one, List.getElem?_eq_getElem hlt', hx, List.getD_eq_getElem?_getD, List.getElem?_eq_getElem hlt']; rfl
      obtain ⟨S, hS⟩ : ∃ S, S = stab keyN (seg.take (i - a)) := ⟨_, rfl⟩
      have HSL := Aside0.mk (show S.length = i - a by rw [hS, len_stab, List.length_take]; have := HE.out; omega)
      have HSRT := Aside0.mk (show Srt keyN S by rw [hS]; exact srt_stab _)
      obtain ⟨R, hR⟩ : ∃ R, R = seg.drop (i + 1 - a) ++ post := ⟨_, rfl⟩
      have HNX := Aside0.mk (show pre ++ (stab keyN (seg.take (i + 1 - a)) ++ (seg.drop (i + 1 - a) ++ post)) = pre ++ (insS keyN x S ++ R) by rw [htake, stab_snoc, ← hS, hR])
      have HI := Aside0.mk (show DR B g nn cap (pre ++ (S ++ x :: R)) wr by
        have := H.out
        rw [hdrop, ← hS, List.cons_append, ← hR] at this
        exact this)
      have HR := Aside0.mk hR
      clear hx hdrop htake hS H hR
      go_wp2
      go_loopw [9] (fun v9 wr => ∃ (j : Nat) (S1 S2 : List Ptr), v9 = .int .i64 (j : Int) ∧ Aside0 (j = a + S1.length) ∧ a ≤ j ∧ j < nn ∧ Aside0 (S = S1 ++ S2) ∧ Aside0 (∀ y ∈ S2, keyN x < keyN y) ∧ Aside0 (DR B g nn cap ((pre ++ S1) ++ x :: (S2 ++ R)) wr)) (fun v _ => (intOf v).toNat)
      case atStart => exact ⟨i, S, [], rfl, ⟨by have := HSL.out; omega⟩, by omega, by omega, ⟨by simp⟩, ⟨fun y hy => by simp at hy⟩, ⟨by simpa using HI.out⟩⟩
      case round =>
        obtain ⟨j, S1, S2, rfl, HJ, hja, hjn, HS, HA, H⟩ := hrel
        clear HI
        have HD := Aside0.mk (H.out.on (below_drew (Below.refl _ _)))
        clear H
        by_cases h0 : S1 = []
        · subst h0
          have hja0 : j = a := by simpa using HJ.out
          have hjle : j ≤ a := by omega
          clear hja0
          have HF := Aside0.mk (show pre ++ (insS keyN x S ++ R) = (pre ++ []) ++ x :: (S2 ++ R) by
            rw [HS.out, insS_split HA.out (fun y hy => by simp at hy)]; simp)
          go_wp2
          refine wp_region_held_drew (S := fun _ => True) (by kernel_rfl) trivial (fun hW => ?_)
          refine wpAnyH_take (i := 0) (oi := ⟨some 18, _, _, _, _, _⟩) (v := .int .i64 (j : Int)) rfl (by kernel_rfl) (by kernel_rfl) (by kernel_rfl) (fun _ _ _ h => h) (.inl ⟨by rfl, fun W1 h1 => by go_simp⟩) hW ?_
          try simp only [Act.put, List.setIfInBounds_toArray, List.set_cons_zero, List.set_cons_succ]
          refine wpAnyH_take (i := 1) (oi := ⟨some 19, _, _, _, _, _⟩) (v := .int .i64 (a : Int)) rfl (by kernel_rfl) (by kernel_rfl) (by kernel_rfl) (fun _ _ _ h => h) (.inl ⟨by rfl, fun W1 h1 => by go_simp⟩) hW ?_
          try simp only [Act.put, List.setIfInBounds_toArray, List.set_cons_zero, List.set_cons_succ]
          refine wpAnyH_take (i := 2) (oi := ⟨some 20, _, _, _, _, _⟩) (v := .bool false) rfl (by kernel_rfl) (by kernel_rfl) (by kernel_rfl) (fun _ _ _ h => h) (.inl ⟨by rfl, fun W1 h1 => by go_simp⟩) hW ?_
          try simp only [Act.put, List.setIfInBounds_toArray, List.set_cons_zero, List.set_cons_succ]
          refine wpAnyH_take (i := 3) (oi := ⟨some 21, _, _, _, _, _⟩) (v := .bool false) rfl (by kernel_rfl) (by kernel_rfl) (by kernel_rfl) (fun _ _ _ h => h) (.inl ⟨by rfl, fun W1 h1 => by go_simp⟩) hW ?_
          try simp only [Act.put, List.setIfInBounds_toArray, List.set_cons_zero, List.set_cons_succ]
          refine wpAnyH_take (i := 4) (oi := ⟨some 22, _, _, _, _, _⟩) (v := undef) rfl (by kernel_rfl) (by kernel_rfl) (by kernel_rfl) (fun _ _ _ h => h) (.inr ⟨by rfl, rfl⟩) hW ?_
          try simp only [Act.put, List.setIfInBounds_toArray, List.set_cons_zero, List.set_cons_succ]
          refine wpAnyH_take (i := 5) (oi := ⟨some 23, _, _, _, _, _⟩) (v := undef) rfl (by kernel_rfl) (by kernel_rfl) (by kernel_rfl) (fun _ _ _ h => h) (.inr ⟨by rfl, rfl⟩) hW ?_
          try simp only [Act.put, List.setIfInBounds_toArray, List.set_cons_zero, List.set_cons_succ]
          refine wpAnyH_take (i := 6) (oi := ⟨some 24, _, _, _, _, _⟩) (v := undef) rfl (by kernel_rfl) (by kernel_rfl) (by kernel_rfl) (fun _ _ _ h => h) (.inr ⟨by rfl, rfl⟩) hW ?_
          try simp only [Act.put, List.setIfInBounds_toArray, List.set_cons_zero, List.set_cons_succ]
          refine wpAnyH_take (i := 7) (oi := ⟨some 25, _, _, _, _, _⟩) (v := undef) rfl (by kernel_rfl) (by kernel_rfl) (by kernel_rfl) (fun _ _ _ h => h) (.inr ⟨by rfl, rfl⟩) hW ?_
          try simp only [Act.put, List.setIfInBounds_toArray, List.set_cons_zero, List.set_cons_succ]
          refine wpAnyH_take (i := 8) (oi := ⟨some 26, _, _, _, _, _⟩) (v := undef) rfl (by kernel_rfl) (by kernel_rfl) (by kernel_rfl) (fun _ _ _ h => h) (.inr ⟨by rfl, rfl⟩) hW ?_
          try simp only [Act.put, List.setIfInBounds_toArray, List.set_cons_zero, List.set_cons_succ]
          refine wpAnyH_take (i := 9) (oi := ⟨some 27, _, _, _, _, _⟩) (v := undef) rfl (by kernel_rfl) (by kernel_rfl) (by kernel_rfl) (fun _ _ _ h => h) (.inr ⟨by rfl, rfl⟩) hW ?_
          try simp only [Act.put, List.setIfInBounds_toArray, List.set_cons_zero, List.set_cons_succ]
          refine wpAnyH_take (i := 10) (oi := ⟨some 28, _, _, _, _, _⟩) (v := undef) rfl (by kernel_rfl) (by kernel_rfl) (by kernel_rfl) (fun _ _ _ h => h) (.inr ⟨by rfl, rfl⟩) hW ?_
          try simp only [Act.put, List.setIfInBounds_toArray, List.set_cons_zero, List.set_cons_succ]
          refine wpAnyH_take (i := 11) (oi := ⟨some 29, _, _, _, _, _⟩) (v := undef) rfl (by kernel_rfl) (by kernel_rfl) (by kernel_rfl) (fun _ _ _ h => h) (.inr ⟨by rfl, rfl⟩) hW ?_
          try simp only [Act.put, List.setIfInBounds_toArray, List.set_cons_zero, List.set_cons_succ]
          refine wpAnyH_take (i := 12) (oi := ⟨some 30, _, _, _, _, _⟩) (v := undef) rfl (by kernel_rfl) (by kernel_rfl) (by kernel_rfl) (fun _ _ _ h => h) (.inr ⟨by rfl, rfl⟩) hW ?_
          try simp only [Act.put, List.setIfInBounds_toArray, List.set_cons_zero, List.set_cons_succ]
          refine wpAnyH_take (i := 13) (oi := ⟨some 31, _, _, _, _, _⟩) (v := undef) rfl (by kernel_rfl) (by kernel_rfl) (by kernel_rfl) (fun _ _ _ h => h) (.inr ⟨by rfl, rfl⟩) hW ?_
          try simp only [Act.put, List.setIfInBounds_toArray, List.set_cons_zero, List.set_cons_succ]
          refine wpAnyH_take (i := 14) (oi := ⟨some 32, _, _, _, _, _⟩) (v := undef) rfl (by kernel_rfl) (by kernel_rfl) (by kernel_rfl) (fun _ _ _ h => h) (.inr ⟨by rfl, rfl⟩) hW ?_
          try simp only [Act.put, List.setIfInBounds_toArray, List.set_cons_zero, List.set_cons_succ]
          refine wpAnyH_take (i := 15) (oi := ⟨some 33, _, _, _, _, _⟩) (v := undef) rfl (by kernel_rfl) (by kernel_rfl) (by kernel_rfl) (fun _ _ _ h => h) (.inr ⟨by rfl, rfl⟩) hW ?_
          try simp only [Act.put, List.setIfInBounds_toArray, List.set_cons_zero, List.set_cons_succ]
          refine wpAnyH_take (i := 16) (oi := ⟨some 34, _, _, _, _, _⟩) (v := .bool false) rfl (by kernel_rfl) (by kernel_rfl) (by kernel_rfl) (fun _ _ _ h => h) (.inl ⟨by rfl, fun W1 h1 => by go_simp⟩) hW ?_
          try simp only [Act.put, List.setIfInBounds_toArray, List.set_cons_zero, List.set_cons_succ]
          refine wpAnyH_done (by kernel_rfl) ?_ _
          clear hW
          go_wp2
          go_roundw
          case rel => exact ⟨i + 1, by go_num, by omega, .inl (by omega), ⟨by rw [HNX.out, HF.out]; exact HD.out⟩⟩
          case measure => simp [intOf]; omega
        · obtain ⟨S1', y, rfl⟩ : ∃ S1' y, S1 = S1' ++ [y] := ⟨S1.dropLast, S1.getLast h0, (List.dropLast_concat_getLast h0).symm⟩
          obtain ⟨m, hm⟩ : ∃ m, m = a + S1'.length := ⟨_, rfl⟩
          have hjm : j = m + 1 := by rw [HJ.out, hm, List.length_append]; simp; omega
          have ecur : (pre ++ (S1' ++ [y])) ++ x :: (S2 ++ R) = (pre ++ S1') ++ y :: x :: (S2 ++ R) := by simp
          have hmu : m = (pre ++ S1').length := by rw [hm, List.length_append, HE.out.1]
          rw [ecur] at HD
          have hx2 := HD.out.at_ j hjn
          have hy2 := HD.out.at_ m (by omega)
          rw [getD_mid2 _ _ _ _ _ (by rw [← hmu]; exact hjm)] at hx2
          rw [getD_mid _ _ _ _ hmu] at hy2
          have HX := Aside0.mk hx2
          have HY := Aside0.mk hy2
          have hajlt : a < j := by omega
          have HM := Aside0.mk (And.intro hm (And.intro hjm hmu))
          have hmj : (m : Int) = (j : Int) - 1 := by omega
          have hm1 : j ≤ m + 1 ∧ m + 1 ≤ j ∧ a ≤ m := by omega
          clear hx2 hy2 h0 ecur hm hjm hmu hmj
          have hS0 : Below wr.drew.heap.size wr.drew wr.drew := Below.refl _ _
          by_cases hk : keyN x < keyN y
          · have ht : decide (tri (keyN x) (keyN y) < 0) = true := by rw [tri_neg]; exact decide_eq_true hk
            have HA2 := Aside0.mk (show ∀ z ∈ y :: S2, keyN x < keyN z from fun z hz => by
              rcases List.mem_cons.1 hz with rfl | hz
              · exact hk
              · exact HA.out z hz)
            have HS2 := Aside0.mk (show S = S1' ++ (y :: S2) by rw [HS.out]; simp)
            have HSW := Aside0.mk (show (((pre ++ S1') ++ y :: x :: (S2 ++ R)).set j y).set m x = (pre ++ S1') ++ x :: ((y :: S2) ++ R) by rw [set_two _ _ _ _ _ _ HM.out.2.2 HM.out.2.1]; rfl)
            go_wp2
            refine wp_region_held_drew (S := fun w' => Below wr.drew.heap.size wr.drew w') (by kernel_rfl) hS0 (fun hW => ?_)
            generalize hWd : wr.drew = Wd at *
            clear hWd
            refine wpAnyH_take (i := 0) (oi := ⟨some 18, _, _, _, _, _⟩) (v := .int .i64 (j : Int)) rfl (by kernel_rfl) (by kernel_rfl) (by kernel_rfl) (fun _ _ _ h => h) (.inl ⟨by rfl, fun W1 h1 => by go_simp⟩) hW ?_
            try simp only [Act.put, List.setIfInBounds_toArray, List.set_cons_zero, List.set_cons_succ]
            refine wpAnyH_take (i := 1) (oi := ⟨some 19, _, _, _, _, _⟩) (v := .int .i64 (a : Int)) rfl (by kernel_rfl) (by kernel_rfl) (by kernel_rfl) (fun _ _ _ h => h) (.inl ⟨by rfl, fun W1 h1 => by go_simp⟩) hW ?_
            try simp only [Act.put, List.setIfInBounds_toArray, List.set_cons_zero, List.set_cons_succ]
            refine wpAnyH_take (i := 2) (oi := ⟨some 20, _, _, _, _, _⟩) (v := .bool true) rfl (by kernel_rfl) (by kernel_rfl) (by kernel_rfl) (fun _ _ _ h => h) (.inl ⟨by rfl, fun W1 h1 => by go_simp⟩) hW ?_
            try simp only [Act.put, List.setIfInBounds_toArray, List.set_cons_zero, List.set_cons_succ]
            refine wpAnyH_take (i := 3) (oi := ⟨some 21, _, _, _, _, _⟩) (v := .bool true) rfl (by kernel_rfl) (by kernel_rfl) (by kernel_rfl) (fun _ _ _ h => h) (.inl ⟨by rfl, fun W1 h1 => by go_simp⟩) hW ?_
            try simp only [Act.put, List.setIfInBounds_toArray, List.set_cons_zero, List.set_cons_succ]
            refine wpAnyH_take (i := 4) (oi := ⟨some 22, _, _, _, _, _⟩) (v := .func (.func 82) #[] #[]) rfl (by kernel_rfl) (by kernel_rfl) (by kernel_rfl) (fun _ _ _ h => h) (.inl ⟨by rfl, fun W1 h1 => by go_simp⟩) hW ?_
            try simp only [Act.put, List.setIfInBounds_toArray, List.set_cons_zero, List.set_cons_succ]
            refine wpAnyH_take (i := 5) (oi := ⟨some 23, _, _, _, _, _⟩) (v := .slice (some ⟨g, 0, none⟩) nn cap) rfl (by kernel_rfl) (by kernel_rfl) (by kernel_rfl) (fun _ _ _ h => h) (.inl ⟨by rfl, fun W1 h1 => by go_simp⟩) hW ?_
            try simp only [Act.put, List.setIfInBounds_toArray, List.set_cons_zero, List.set_cons_succ]
            refine wpAnyH_take (i := 6) (oi := ⟨some 24, _, _, _, _, _⟩) (v := .int .i64 (j : Int)) rfl (by kernel_rfl) (by kernel_rfl) (by kernel_rfl) (fun _ _ _ h => h) (.inl ⟨by rfl, fun W1 h1 => by go_simp⟩) hW ?_
            try simp only [Act.put, List.setIfInBounds_toArray, List.set_cons_zero, List.set_cons_succ]
            refine wpAnyH_take (i := 7) (oi := ⟨some 25, _, _, _, _, _⟩) (v := .pointer (some ⟨g, j * 36, none⟩)) rfl (by kernel_rfl) (by kernel_rfl) (by kernel_rfl) (fun _ _ _ h => h) (.inl ⟨by rfl, fun W1 h1 => by go_simp⟩) hW ?_
            try simp only [Act.put, List.setIfInBounds_toArray, List.set_cons_zero, List.set_cons_succ]
            refine wpAnyH_take (i := 8) (oi := ⟨some 26, _, _, _, _, _⟩) rfl (by kernel_rfl) (by kernel_rfl) (by kernel_rfl) (fun _ _ _ h => h) (yieldsIf_load_P (by rfl) _ rfl g (j * 36) x HX.out.1 rfl (fun W1 h1 => rangeAt_below HX.out.2 h1 (blk_g HD.out))) hW ?_
            try simp only [Act.put, List.setIfInBounds_toArray, List.set_cons_zero, List.set_cons_succ]
            refine wpAnyH_take (i := 9) (oi := ⟨some 27, _, _, _, _, _⟩) (v := .slice (some ⟨g, 0, none⟩) nn cap) rfl (by kernel_rfl) (by kernel_rfl) (by kernel_rfl) (fun _ _ _ h => h) (.inl ⟨by rfl, fun W1 h1 => by go_simp⟩) hW ?_
            try simp only [Act.put, List.setIfInBounds_toArray, List.set_cons_zero, List.set_cons_succ]
            refine wpAnyH_take (i := 10) (oi := ⟨some 28, _, _, _, _, _⟩) (v := .int .i64 (j : Int)) rfl (by kernel_rfl) (by kernel_rfl) (by kernel_rfl) (fun _ _ _ h => h) (.inl ⟨by rfl, fun W1 h1 => by go_simp⟩) hW ?_
            try simp only [Act.put, List.setIfInBounds_toArray, List.set_cons_zero, List.set_cons_succ]
            refine wpAnyH_take (i := 11) (oi := ⟨some 29, _, _, _, _, _⟩) (v := .int .i64 ((j : Int) - 1)) rfl (by kernel_rfl) (by kernel_rfl) (by kernel_rfl) (fun _ _ _ h => h) (.inl ⟨by rfl, fun W1 h1 => by go_simp; rw [IntKind.wrap_i64]; omega⟩) hW ?_
            try simp only [Act.put, List.setIfInBounds_toArray, List.set_cons_zero, List.set_cons_succ]
            refine wpAnyH_take (i := 12) (oi := ⟨some 30, _, _, _, _, _⟩) (v := .pointer (some ⟨g, m * 36, none⟩)) rfl (by kernel_rfl) (by kernel_rfl) (by kernel_rfl) (fun _ _ _ h => h) (.inl ⟨by rfl, fun W1 h1 => by go_simp; rw [show j - 1 = m by omega, if_pos (by omega)]⟩) hW ?_
            try simp only [Act.put, List.setIfInBounds_toArray, List.set_cons_zero, List.set_cons_succ]
            refine wpAnyH_take (i := 13) (oi := ⟨some 31, _, _, _, _, _⟩) rfl (by kernel_rfl) (by kernel_rfl) (by kernel_rfl) (fun _ _ _ h => h) (yieldsIf_load_P (by rfl) _ rfl g (m * 36) y HY.out.1 rfl (fun W1 h1 => rangeAt_below HY.out.2 h1 (blk_g HD.out))) hW ?_
            try simp only [Act.put, List.setIfInBounds_toArray, List.set_cons_zero, List.set_cons_succ]
            refine wpAnyH_ready (rs := [14]) (by kernel_rfl) (by simp) (AllReadyH.cons rfl (fun K1 hK1 => ?_) AllReadyH.nil)
            go_simp
            refine (compare_calls x y HX.out.1 HY.out.1 Wd).mono ?_
            rintro e W1 ⟨rfl, hb1⟩
            have HV := Aside0.mk (HD.out.on hb1)
            refine hK1.out _ _ (below_then hW hW.size hb1) (fun hW => ?_)
            try simp only [Act.put, List.setIfInBounds_toArray, List.set_cons_zero, List.set_cons_succ]
            refine wpAnyH_take (i := 15) (oi := ⟨some 33, _, _, _, _, _⟩) (v := .bool true) rfl (by kernel_rfl) (by kernel_rfl) (by kernel_rfl) (fun _ _ _ h => h) (.inl ⟨by rfl, fun W1 h1 => by go_simp⟩) hW ?_
            try simp only [Act.put, List.setIfInBounds_toArray, List.set_cons_zero, List.set_cons_succ]
            refine wpAnyH_take (i := 16) (oi := ⟨some 34, _, _, _, _, _⟩) (v := .bool true) rfl (by kernel_rfl) (by kernel_rfl) (by kernel_rfl) (fun _ _ _ h => h) (.inl ⟨by rfl, fun W1 h1 => by go_simp⟩) hW ?_
            try simp only [Act.put, List.setIfInBounds_toArray, List.set_cons_zero, List.set_cons_succ]
            refine wpAnyH_done (by kernel_rfl) ?_ _
            clear hW hb1 hK1 K1
            clear HD
            go_wp2
            have HG := Aside0.mk (HV.out.on (below_drew (Below.refl W1.heap.size W1)))
            have hx3 := HG.out.at_ j hjn
            have hy3 := HG.out.at_ m (by omega)
            rw [getD_mid2 _ _ _ _ _ (by rw [← HM.out.2.2]; exact HM.out.2.1)] at hx3
            rw [getD_mid _ _ _ _ HM.out.2.2] at hy3
            have HGk := Aside0.mk (And.intro hx3 hy3)
            clear hx3 hy3 HV
            refine wp_region_held_drew (S := fun _ => True) (by kernel_rfl) trivial (fun _ => ?_)
            generalize hWg : W1.drew = Wg at *
            clear hWg
            refine wpAnyH_take (i := 0) (oi := ⟨some 37, _, _, _, _, _⟩) (v := .slice (some ⟨g, 0, none⟩) nn cap) rfl (by kernel_rfl) (by kernel_rfl) (by kernel_rfl) (fun _ _ _ h => h) (.inl ⟨by rfl, fun W1 h1 => by go_simp⟩) trivial ?_
            try simp only [Act.put, List.setIfInBounds_toArray, List.set_cons_zero, List.set_cons_succ]
            refine wpAnyH_take (i := 1) (oi := ⟨some 38, _, _, _, _, _⟩) (v := .int .i64 (j : Int)) rfl (by kernel_rfl) (by kernel_rfl) (by kernel_rfl) (fun _ _ _ h => h) (.inl ⟨by rfl, fun W1 h1 => by go_simp⟩) trivial ?_
            try simp only [Act.put, List.setIfInBounds_toArray, List.set_cons_zero, List.set_cons_succ]
            refine wpAnyH_take (i := 2) (oi := ⟨some 39, _, _, _, _, _⟩) (v := .slice (some ⟨g, 0, none⟩) nn cap) rfl (by kernel_rfl) (by kernel_rfl) (by kernel_rfl) (fun _ _ _ h => h) (.inl ⟨by rfl, fun W1 h1 => by go_simp⟩) trivial ?_
            try simp only [Act.put, List.setIfInBounds_toArray, List.set_cons_zero, List.set_cons_succ]
            refine wpAnyH_take (i := 3) (oi := ⟨some 40, _, _, _, _, _⟩) (v := .int .i64 (j : Int)) rfl (by kernel_rfl) (by kernel_rfl) (by kernel_rfl) (fun _ _ _ h => h) (.inl ⟨by rfl, fun W1 h1 => by go_simp⟩) trivial ?_
            try simp only [Act.put, List.setIfInBounds_toArray, List.set_cons_zero, List.set_cons_succ]
            refine wpAnyH_take (i := 4) (oi := ⟨some 41, _, _, _, _, _⟩) (v := .int .i64 ((j : Int) - 1)) rfl (by kernel_rfl) (by kernel_rfl) (by kernel_rfl) (fun _ _ _ h => h) (.inl ⟨by rfl, fun W1 h1 => by go_simp; rw [IntKind.wrap_i64]; omega⟩) trivial ?_
            try simp only [Act.put, List.setIfInBounds_toArray, List.set_cons_zero, List.set_cons_succ]
            refine wpAnyH_take (i := 5) (oi := ⟨some 42, _, _, _, _, _⟩) (v := .slice (some ⟨g, 0, none⟩) nn cap) rfl (by kernel_rfl) (by kernel_rfl) (by kernel_rfl) (fun _ _ _ h => h) (.inl ⟨by rfl, fun W1 h1 => by go_simp⟩) trivial ?_
            try simp only [Act.put, List.setIfInBounds_toArray, List.set_cons_zero, List.set_cons_succ]
            refine wpAnyH_take (i := 6) (oi := ⟨some 43, _, _, _, _, _⟩) (v := .int .i64 (j : Int)) rfl (by kernel_rfl) (by kernel_rfl) (by kernel_rfl) (fun _ _ _ h => h) (.inl ⟨by rfl, fun W1 h1 => by go_simp⟩) trivial ?_
            try simp only [Act.put, List.setIfInBounds_toArray, List.set_cons_zero, List.set_cons_succ]
            refine wpAnyH_take (i := 7) (oi := ⟨some 44, _, _, _, _, _⟩) (v := .int .i64 ((j : Int) - 1)) rfl (by kernel_rfl) (by kernel_rfl) (by kernel_rfl) (fun _ _ _ h => h) (.inl ⟨by rfl, fun W1 h1 => by go_simp; rw [IntKind.wrap_i64]; omega⟩) trivial ?_
            try simp only [Act.put, List.setIfInBounds_toArray, List.set_cons_zero, List.set_cons_succ]
            refine wpAnyH_take (i := 8) (oi := ⟨some 45, _, _, _, _, _⟩) (v := .pointer (some ⟨g, m * 36, none⟩)) rfl (by kernel_rfl) (by kernel_rfl) (by kernel_rfl) (fun _ _ _ h => h) (.inl ⟨by rfl, fun W1 h1 => by go_simp; rw [show j - 1 = m by omega, if_pos (by omega)]⟩) trivial ?_
            try simp only [Act.put, List.setIfInBounds_toArray, List.set_cons_zero, List.set_cons_succ]
            refine wpAnyH_take (i := 10) (oi := ⟨some 47, _, _, _, _, _⟩) (v := .slice (some ⟨g, 0, none⟩) nn cap) rfl (by kernel_rfl) (by kernel_rfl) (by kernel_rfl) (fun _ _ _ h => h) (.inl ⟨by rfl, fun W1 h1 => by go_simp⟩) trivial ?_
            try simp only [Act.put, List.setIfInBounds_toArray, List.set_cons_zero, List.set_cons_succ]
            refine wpAnyH_take (i := 11) (oi := ⟨some 48, _, _, _, _, _⟩) (v := .int .i64 (j : Int)) rfl (by kernel_rfl) (by kernel_rfl) (by kernel_rfl) (fun _ _ _ h => h) (.inl ⟨by rfl, fun W1 h1 => by go_simp⟩) trivial ?_
            try simp only [Act.put, List.setIfInBounds_toArray, List.set_cons_zero, List.set_cons_succ]
            refine wpAnyH_take (i := 12) (oi := ⟨some 49, _, _, _, _, _⟩) (v := .pointer (some ⟨g, j * 36, none⟩)) rfl (by kernel_rfl) (by kernel_rfl) (by kernel_rfl) (fun _ _ _ h => h) (.inl ⟨by rfl, fun W1 h1 => by go_simp⟩) trivial ?_
            try simp only [Act.put, List.setIfInBounds_toArray, List.set_cons_zero, List.set_cons_succ]
            refine wpAnyH_ready (rs := [9, 13]) (by kernel_rfl) (by simp) (AllReadyH.cons rfl (fun L1 hL1 => ?_) (AllReadyH.cons rfl (fun L2 hL2 => ?_) AllReadyH.nil))
            · refine wp_load_P (o := ⟨some 46, _, _, _, _, _⟩) _ rfl g (m * 36) y rfl HGk.out.2.1 HGk.out.2.2 ?_
              refine hL1.out _ _ trivial (fun _ => ?_)
              try simp only [Act.put, List.setIfInBounds_toArray, List.set_cons_zero, List.set_cons_succ]
              refine wpAnyH_ready (rs := [13]) (by kernel_rfl) (by simp) (AllReadyH.cons rfl (fun L3 hL3 => ?_) AllReadyH.nil)
              refine wp_load_P (o := ⟨some 50, _, _, _, _, _⟩) _ rfl g (j * 36) x rfl HGk.out.1.1 HGk.out.1.2 ?_
              refine hL3.out _ _ trivial (fun _ => ?_)
              try simp only [Act.put, List.setIfInBounds_toArray, List.set_cons_zero, List.set_cons_succ]
              refine wpAnyH_take (i := 14) (oi := ⟨some 51, _, _, _, _, _⟩) (v := .pointer (some ⟨g, j * 36, none⟩)) rfl (by kernel_rfl) (by kernel_rfl) (by kernel_rfl) (fun _ _ _ h => h) (.inl ⟨by rfl, fun W1 h1 => by go_simp⟩) trivial ?_
              try simp only [Act.put, List.setIfInBounds_toArray, List.set_cons_zero, List.set_cons_succ]
              refine wpAnyH_ready (rs := [15]) (by kernel_rfl) (by simp) (AllReadyH.cons rfl (fun kS1 hkS1 => ?_) AllReadyH.nil)
              refine wp_store_mid (op := ⟨none, _, _, _, _, _⟩) 56 _ _ rfl g (j * 36) (encP y) rfl rfl (by rw [encP_size HGk.out.2.1.len]; exact HG.out.there j (by omega)) (si HGk.out.2.1.len) (PtrJ.a_enc y) ?_
              have HG1 := Aside0.mk (HG.out.store j (by omega) y HGk.out.2.1)
              refine hkS1.out _ _ trivial (fun _ => ?_)
              try simp only [Act.put, List.setIfInBounds_toArray, List.set_cons_zero, List.set_cons_succ]
              generalize hW1 : Wg.setCells g (j * 36) (encP y).toList = Ws1 at *
              clear hW1
              refine wpAnyH_take (i := 16) (oi := ⟨some 52, _, _, _, _, _⟩) (v := .pointer (some ⟨g, m * 36, none⟩)) rfl (by kernel_rfl) (by kernel_rfl) (by kernel_rfl) (fun _ _ _ h => h) (.inl ⟨by rfl, fun W1 h1 => by go_simp; rw [show j - 1 = m by omega, if_pos (by omega)]⟩) trivial ?_
              try simp only [Act.put, List.setIfInBounds_toArray, List.set_cons_zero, List.set_cons_succ]
              refine wpAnyH_ready (rs := [17]) (by kernel_rfl) (by simp) (AllReadyH.cons rfl (fun kS2 hkS2 => ?_) AllReadyH.nil)
              refine wp_store_mid (op := ⟨none, _, _, _, _, _⟩) 56 _ _ rfl g (m * 36) (encP x) rfl rfl (by rw [encP_size HGk.out.1.1.len]; exact HG1.out.there m (by omega)) (si HGk.out.1.1.len) (PtrJ.a_enc x) ?_
              have HG2 := Aside0.mk (HG1.out.store m (by omega) x HGk.out.1.1)
              refine hkS2.out _ _ trivial (fun _ => ?_)
              try simp only [Act.put, List.setIfInBounds_toArray, List.set_cons_zero, List.set_cons_succ]
              generalize hW2 : Ws1.setCells g (m * 36) (encP x).toList = Ws2 at *
              clear hW2
              refine wpAnyH_done (by kernel_rfl) ?_ _
              go_wp2
              go_roundw
              case rel => exact ⟨m, S1', y :: S2, by go_num, ⟨HM.out.1⟩, hm1.2.2, by omega, HS2, HA2, ⟨by rw [← HSW.out]; exact HG2.out⟩⟩
              case measure => simp [intOf]; omega
            · refine wp_load_P (o := ⟨some 50, _, _, _, _, _⟩) _ rfl g (j * 36) x rfl HGk.out.1.1 HGk.out.1.2 ?_
              refine hL2.out _ _ trivial (fun _ => ?_)
              try simp only [Act.put, List.setIfInBounds_toArray, List.set_cons_zero, List.set_cons_succ]
              refine wpAnyH_ready (rs := [9]) (by kernel_rfl) (by simp) (AllReadyH.cons rfl (fun L3 hL3 => ?_) AllReadyH.nil)
              refine wp_load_P (o := ⟨some 46, _, _, _, _, _⟩) _ rfl g (m * 36) y rfl HGk.out.2.1 HGk.out.2.2 ?_
              refine hL3.out _ _ trivial (fun _ => ?_)
              try simp only [Act.put, List.setIfInBounds_toArray, List.set_cons_zero, List.set_cons_succ]
              refine wpAnyH_take (i := 14) (oi := ⟨some 51, _, _, _, _, _⟩) (v := .pointer (some ⟨g, j * 36, none⟩)) rfl (by kernel_rfl) (by kernel_rfl) (by kernel_rfl) (fun _ _ _ h => h) (.inl ⟨by rfl, fun W1 h1 => by go_simp⟩) trivial ?_
              try simp only [Act.put, List.setIfInBounds_toArray, List.set_cons_zero, List.set_cons_succ]
              refine wpAnyH_ready (rs := [15]) (by kernel_rfl) (by simp) (AllReadyH.cons rfl (fun kS1 hkS1 => ?_) AllReadyH.nil)
              refine wp_store_mid (op := ⟨none, _, _, _, _, _⟩) 56 _ _ rfl g (j * 36) (encP y) rfl rfl (by rw [encP_size HGk.out.2.1.len]; exact HG.out.there j (by omega)) (si HGk.out.2.1.len) (PtrJ.a_enc y) ?_
              have HG1 := Aside0.mk (HG.out.store j (by omega) y HGk.out.2.1)
              refine hkS1.out _ _ trivial (fun _ => ?_)
              try simp only [Act.put, List.setIfInBounds_toArray, List.set_cons_zero, List.set_cons_succ]
              generalize hW1 : Wg.setCells g (j * 36) (encP y).toList = Ws1 at *
              clear hW1
              refine wpAnyH_take (i := 16) (oi := ⟨some 52, _, _, _, _, _⟩) (v := .pointer (some ⟨g, m * 36, none⟩)) rfl (by kernel_rfl) (by kernel_rfl) (by kernel_rfl) (fun _ _ _ h => h) (.inl ⟨by rfl, fun W1 h1 => by go_simp; rw [show j - 1 = m by omega, if_pos (by omega)]⟩) trivial ?_
              try simp only [Act.put, List.setIfInBounds_toArray, List.set_cons_zero, List.set_cons_succ]
              refine wpAnyH_ready (rs := [17]) (by kernel_rfl) (by simp) (AllReadyH.cons rfl (fun kS2 hkS2 => ?_) AllReadyH.nil)
              refine wp_store_mid (op := ⟨none, _, _, _, _, _⟩) 56 _ _ rfl g (m * 36) (encP x) rfl rfl (by rw [encP_size HGk.out.1.1.len]; exact HG1.out.there m (by omega)) (si HGk.out.1.1.len) (PtrJ.a_enc x) ?_
              have HG2 := Aside0.mk (HG1.out.store m (by omega) x HGk.out.1.1)
              refine hkS2.out _ _ trivial (fun _ => ?_)
              try simp only [Act.put, List.setIfInBounds_toArray, List.set_cons_zero, List.set_cons_succ]
              generalize hW2 : Ws1.setCells g (m * 36) (encP x).toList = Ws2 at *
              clear hW2
              refine wpAnyH_done (by kernel_rfl) ?_ _
              go_wp2
              go_roundw
              case rel => exact ⟨m, S1', y :: S2, by go_num, ⟨HM.out.1⟩, hm1.2.2, by omega, HS2, HA2, ⟨by rw [← HSW.out]; exact HG2.out⟩⟩
              case measure => simp [intOf]; omega
          · have hf : decide (tri (keyN x) (keyN y) < 0) = false := by rw [tri_neg]; exact decide_eq_false hk
            have HF := Aside0.mk (show pre ++ (insS keyN x S ++ R) = (pre ++ S1') ++ y :: x :: (S2 ++ R) by
              have hs := HSRT.out
              rw [HS.out] at hs
              have hall : ∀ z ∈ S1' ++ [y], keyN z ≤ keyN x := fun z hz => by
                have h1 := (List.pairwise_append.1 hs).1
                have h2 := List.pairwise_append.1 h1
                rcases List.mem_append.1 hz with hz | hz
                · have := h2.2.2 z hz y (List.mem_singleton.2 rfl); omega
                · rw [List.mem_singleton.1 hz]; omega
              rw [HS.out, insS_split HA.out hall]; simp)
            go_wp2
            refine wp_region_held_drew (S := fun w' => Below wr.drew.heap.size wr.drew w') (by kernel_rfl) hS0 (fun hW => ?_)
            generalize hWd : wr.drew = Wd at *
            clear hWd
            refine wpAnyH_take (i := 0) (oi := ⟨some 18, _, _, _, _, _⟩) (v := .int .i64 (j : Int)) rfl (by kernel_rfl) (by kernel_rfl) (by kernel_rfl) (fun _ _ _ h => h) (.inl ⟨by rfl, fun W1 h1 => by go_simp⟩) hW ?_
            try simp only [Act.put, List.setIfInBounds_toArray, List.set_cons_zero, List.set_cons_succ]
            refine wpAnyH_take (i := 1) (oi := ⟨some 19, _, _, _, _, _⟩) (v := .int .i64 (a : Int)) rfl (by kernel_rfl) (by kernel_rfl) (by kernel_rfl) (fun _ _ _ h => h) (.inl ⟨by rfl, fun W1 h1 => by go_simp⟩) hW ?_
            try simp only [Act.put, List.setIfInBounds_toArray, List.set_cons_zero, List.set_cons_succ]
            refine wpAnyH_take (i := 2) (oi := ⟨some 20, _, _, _, _, _⟩) (v := .bool true) rfl (by kernel_rfl) (by kernel_rfl) (by kernel_rfl) (fun _ _ _ h => h) (.inl ⟨by rfl, fun W1 h1 => by go_simp⟩) hW ?_
            try simp only [Act.put, List.setIfInBounds_toArray, List.set_cons_zero, List.set_cons_succ]
            refine wpAnyH_take (i := 3) (oi := ⟨some 21, _, _, _, _, _⟩) (v := .bool true) rfl (by kernel_rfl) (by kernel_rfl) (by kernel_rfl) (fun _ _ _ h => h) (.inl ⟨by rfl, fun W1 h1 => by go_simp⟩) hW ?_
            try simp only [Act.put, List.setIfInBounds_toArray, List.set_cons_zero, List.set_cons_succ]
            refine wpAnyH_take (i := 4) (oi := ⟨some 22, _, _, _, _, _⟩) (v := .func (.func 82) #[] #[]) rfl (by kernel_rfl) (by kernel_rfl) (by kernel_rfl) (fun _ _ _ h => h) (.inl ⟨by rfl, fun W1 h1 => by go_simp⟩) hW ?_
            try simp only [Act.put, List.setIfInBounds_toArray, List.set_cons_zero, List.set_cons_succ]
            refine wpAnyH_take (i := 5) (oi := ⟨some 23, _, _, _, _, _⟩) (v := .slice (some ⟨g, 0, none⟩) nn cap) rfl (by kernel_rfl) (by kernel_rfl) (by kernel_rfl) (fun _ _ _ h => h) (.inl ⟨by rfl, fun W1 h1 => by go_simp⟩) hW ?_
            try simp only [Act.put, List.setIfInBounds_toArray, List.set_cons_zero, List.set_cons_succ]
            refine wpAnyH_take (i := 6) (oi := ⟨some 24, _, _, _, _, _⟩) (v := .int .i64 (j : Int)) rfl (by kernel_rfl) (by kernel_rfl) (by kernel_rfl) (fun _ _ _ h => h) (.inl ⟨by rfl, fun W1 h1 => by go_simp⟩) hW ?_
            try simp only [Act.put, List.setIfInBounds_toArray, List.set_cons_zero, List.set_cons_succ]
            refine wpAnyH_take (i := 7) (oi := ⟨some 25, _, _, _, _, _⟩) (v := .pointer (some ⟨g, j * 36, none⟩)) rfl (by kernel_rfl) (by kernel_rfl) (by kernel_rfl) (fun _ _ _ h => h) (.inl ⟨by rfl, fun W1 h1 => by go_simp⟩) hW ?_
            try simp only [Act.put, List.setIfInBounds_toArray, List.set_cons_zero, List.set_cons_succ]
            refine wpAnyH_take (i := 8) (oi := ⟨some 26, _, _, _, _, _⟩) rfl (by kernel_rfl) (by kernel_rfl) (by kernel_rfl) (fun _ _ _ h => h) (yieldsIf_load_P (by rfl) _ rfl g (j * 36) x HX.out.1 rfl (fun W1 h1 => rangeAt_below HX.out.2 h1 (blk_g HD.out))) hW ?_
            try simp only [Act.put, List.setIfInBounds_toArray, List.set_cons_zero, List.set_cons_succ]
            refine wpAnyH_take (i := 9) (oi := ⟨some 27, _, _, _, _, _⟩) (v := .slice (some ⟨g, 0, none⟩) nn cap) rfl (by kernel_rfl) (by kernel_rfl) (by kernel_rfl) (fun _ _ _ h => h) (.inl ⟨by rfl, fun W1 h1 => by go_simp⟩) hW ?_
            try simp only [Act.put, List.setIfInBounds_toArray, List.set_cons_zero, List.set_cons_succ]
            refine wpAnyH_take (i := 10) (oi := ⟨some 28, _, _, _, _, _⟩) (v := .int .i64 (j : Int)) rfl (by kernel_rfl) (by kernel_rfl) (by kernel_rfl) (fun _ _ _ h => h) (.inl ⟨by rfl, fun W1 h1 => by go_simp⟩) hW ?_
            try simp only [Act.put, List.setIfInBounds_toArray, List.set_cons_zero, List.set_cons_succ]
            refine wpAnyH_take (i := 11) (oi := ⟨some 29, _, _, _, _, _⟩) (v := .int .i64 ((j : Int) - 1)) rfl (by kernel_rfl) (by kernel_rfl) (by kernel_rfl) (fun _ _ _ h => h) (.inl ⟨by rfl, fun W1 h1 => by go_simp; rw [IntKind.wrap_i64]; omega⟩) hW ?_
            try simp only [Act.put, List.setIfInBounds_toArray, List.set_cons_zero, List.set_cons_succ]
            refine wpAnyH_take (i := 12) (oi := ⟨some 30, _, _, _, _, _⟩) (v := .pointer (some ⟨g, m * 36, none⟩)) rfl (by kernel_rfl) (by kernel_rfl) (by kernel_rfl) (fun _ _ _ h => h) (.inl ⟨by rfl, fun W1 h1 => by go_simp; rw [show j - 1 = m by omega, if_pos (by omega)]⟩) hW ?_
            try simp only [Act.put, List.setIfInBounds_toArray, List.set_cons_zero, List.set_cons_succ]
            refine wpAnyH_take (i := 13) (oi := ⟨some 31, _, _, _, _, _⟩) rfl (by kernel_rfl) (by kernel_rfl) (by kernel_rfl) (fun _ _ _ h => h) (yieldsIf_load_P (by rfl) _ rfl g (m * 36) y HY.out.1 rfl (fun W1 h1 => rangeAt_below HY.out.2 h1 (blk_g HD.out))) hW ?_
            try simp only [Act.put, List.setIfInBounds_toArray, List.set_cons_zero, List.set_cons_succ]
            refine wpAnyH_ready (rs := [14]) (by kernel_rfl) (by simp) (AllReadyH.cons rfl (fun K1 hK1 => ?_) AllReadyH.nil)
            go_simp
            refine (compare_calls x y HX.out.1 HY.out.1 Wd).mono ?_
            rintro e W1 ⟨rfl, hb1⟩
            have HV := Aside0.mk (HD.out.on hb1)
            refine hK1.out _ _ (below_then hW hW.size hb1) (fun hW => ?_)
            try simp only [Act.put, List.setIfInBounds_toArray, List.set_cons_zero, List.set_cons_succ]
            refine wpAnyH_take (i := 15) (oi := ⟨some 33, _, _, _, _, _⟩) (v := .bool false) rfl (by kernel_rfl) (by kernel_rfl) (by kernel_rfl) (fun _ _ _ h => h) (.inl ⟨by rfl, fun W1 h1 => by go_simp⟩) hW ?_
            try simp only [Act.put, List.setIfInBounds_toArray, List.set_cons_zero, List.set_cons_succ]
            refine wpAnyH_take (i := 16) (oi := ⟨some 34, _, _, _, _, _⟩) (v := .bool false) rfl (by kernel_rfl) (by kernel_rfl) (by kernel_rfl) (fun _ _ _ h => h) (.inl ⟨by rfl, fun W1 h1 => by go_simp⟩) hW ?_
            try simp only [Act.put, List.setIfInBounds_toArray, List.set_cons_zero, List.set_cons_succ]
            refine wpAnyH_done (by kernel_rfl) ?_ _
            clear hW hb1 hK1 K1
            clear HD
            go_wp2
            go_roundw
            case rel => exact ⟨i + 1, by go_num, by omega, .inl (by omega), ⟨by rw [HNX.out, HF.out]; exact HV.out⟩⟩
            case measure => simp [intOf]; omega
    · have di : decide ((i : Int) < (b : Int)) = false := decide_eq_false (by omega)
      have HF := Aside0.mk (show pre ++ (stab keyN (seg.take (i - a)) ++ (seg.drop (i - a) ++ post)) = pre ++ (stab keyN seg ++ post) by
        have := HE.out
        rw [List.take_of_length_le (by omega), List.drop_of_length_le (by omega), List.nil_append])
      go_wp2
      go_end0
      rw [HP.out]
      exact ⟨rfl, by rw [← HF.out]; exact H.out⟩
end Go.Proofs.Ytfefpbnhpncmlaa.DeaS
namespace Go.Proofs.Ytfefpbnhpncmlaa.DeaT
open Go.RowKit Go.Proofs.Ytfefpbnhpncmlaa.EntL Go.Proofs.Ytfefpbnhpncmlaa.EntB Go.Proofs.Ytfefpbnhpncmlaa.EntC Go.Proofs.Ytfefpbnhpncmlaa.EntD Go.Proofs.Ytfefpbnhpncmlaa.EntE Go.Proofs.Ytfefpbnhpncmlaa.EntF Go.Proofs.Ytfefpbnhpncmlaa.CatR Go.Proofs.Ytfefpbnhpncmlaa.CatT Go.Proofs.Ytfefpbnhpncmlaa.CatU Go.Proofs.Ytfefpbnhpncmlaa.CatK Go.Proofs.Ytfefpbnhpncmlaa.CatS Go.Proofs.Ytfefpbnhpncmlaa.CatY Go.Proofs.Ytfefpbnhpncmlaa.RefG Go.Proofs.Ytfefpbnhpncmlaa.PtrB Go.Proofs.Ytfefpbnhpncmlaa.PtrG Go.Proofs.Ytfefpbnhpncmlaa.Agg Go.Proofs.Ytfefpbnhpncmlaa.B8 Go.Proofs.Ytfefpbnhpncmlaa.CodL Go.Proofs.Ytfefpbnhpncmlaa.CodA Go.Proofs.Ytfefpbnhpncmlaa.CodB Go.Proofs.Ytfefpbnhpncmlaa.CatL Go.Proofs.Ytfefpbnhpncmlaa.PtrA Go.Proofs.Ytfefpbnhpncmlaa.PtrE Go.Proofs.Ytfefpbnhpncmlaa.PtrF Go.Proofs.Ytfefpbnhpncmlaa.PBaseSigns Go.Proofs.YtfefpbnhpncmlaaW.PrintWords Go.Proofs.YtfefpbnhpncmlaaW.PrintLast Go.Proofs.YtfefpbnhpncmlaaW.PrintMore Go.Proofs.Ytfefpbnhpncmlaa.EntG Go.Proofs.Ytfefpbnhpncmlaa.StmA Go.Proofs.Ytfefpbnhpncmlaa.StmB Go.Proofs.Ytfefpbnhpncmlaa.StmC Go.Proofs.Ytfefpbnhpncmlaa.CrcC Go.Proofs.Ytfefpbnhpncmlaa.StmD Go.Proofs.Ytfefpbnhpncmlaa.StmE Go.Proofs.Ytfefpbnhpncmlaa.CrcL Go.Proofs.Ytfefpbnhpncmlaa.StmL Go.Proofs.Ytfefpbnhpncmlaa.StmF Go.Proofs.Ytfefpbnhpncmlaa.StmG Go.Proofs.Ytfefpbnhpncmlaa.StmH Go.Proofs.Ytfefpbnhpncmlaa.StmI Go.Proofs.Ytfefpbnhpncmlaa.StmJ Go.Proofs.Ytfefpbnhpncmlaa.StmK Go.Proofs.Ytfefpbnhpncmlaa.StmM Go.Proofs.Ytfefpbnhpncmlaa.StmN Go.Proofs.Ytfefpbnhpncmlaa.StmO Go.Proofs.Ytfefpbnhpncmlaa.StmP Go.Proofs.Ytfefpbnhpncmlaa.StmP Go.Proofs.Ytfefpbnhpncmlaa.DeaA Go.Proofs.Ytfefpbnhpncmlaa.DeaB Go.Proofs.Ytfefpbnhpncmlaa.DeaN Go.Proofs.Ytfefpbnhpncmlaa.DeaC Go.Proofs.Ytfefpbnhpncmlaa.DeaR Go.Proofs.Ytfefpbnhpncmlaa.DeaL Go.Proofs.Ytfefpbnhpncmlaa.DeaS
set_option linter.unusedVariables false
set_option linter.unusedSimpArgs false

theorem set_mid (u : List Ptr) (y q : Ptr) (v : List Ptr) (i : Nat) (h : i = u.length) : (u ++ y :: v).set i q = u ++ q :: v := by
  subst h
  rw [List.set_append_right _ _ (Nat.le_refl _)]; simp
theorem sw_far (A M Z : List Ptr) (p q : Ptr) (i j : Nat) (hi : i = A.length) (hj : j = A.length + 1 + M.length) : sw (A ++ p :: (M ++ q :: Z)) i j = A ++ q :: (M ++ p :: Z) := by
  have e : A ++ p :: (M ++ q :: Z) = (A ++ p :: M) ++ q :: Z := by simp
  have hj' : j = (A ++ p :: M).length := by rw [List.length_append, List.length_cons]; omega
  unfold sw
  rw [getD_mid A p _ i hi]
  conv => lhs; rw [e]
  rw [getD_mid _ q Z j hj', ← e, set_mid A p q _ i hi]
  have e2 : A ++ q :: (M ++ q :: Z) = (A ++ q :: M) ++ q :: Z := by simp
  rw [e2, set_mid _ q p Z j (by rw [List.length_append, List.length_cons]; omega)]
  simp
theorem swR_block : ∀ (n : Nat) (x u y v z : List Ptr) (a b : Nat), u.length = n → v.length = n → a = x.length → b = x.length + u.length + y.length →
    swR (x ++ (u ++ (y ++ (v ++ z)))) a b n = x ++ (v ++ (y ++ (u ++ z))) := by
  intro n
  induction n with
  | zero =>
    intro x u y v z a b hu hv ha hb
    have hu0 := List.length_eq_zero_iff.1 hu
    have hv0 := List.length_eq_zero_iff.1 hv
    subst hu0 hv0
    rfl
  | succ n ih =>
    intro x u y v z a b hu hv ha hb
    have hu0 : u ≠ [] := by intro h; rw [h] at hu; simp at hu
    have hv0 : v ≠ [] := by intro h; rw [h] at hv; simp at hv
    obtain ⟨u', p, rfl⟩ : ∃ u' p, u = u' ++ [p] := ⟨u.dropLast, u.getLast hu0, (List.dropLast_concat_getLast hu0).symm⟩
    obtain ⟨v', q, rfl⟩ : ∃ v' q, v = v' ++ [q] := ⟨v.dropLast, v.getLast hv0, (List.dropLast_concat_getLast hv0).symm⟩
    have hu1 : u'.length = n := by simpa using hu
    have hv1 : v'.length = n := by simpa using hv
    have e : x ++ (u' ++ [p] ++ (y ++ (v' ++ [q] ++ z))) = x ++ (u' ++ ((p :: y) ++ (v' ++ (q :: z)))) := by simp
    have h1 := ih x u' (p :: y) v' (q :: z) a b hu1 hv1 ha (by rw [hb, List.length_append]; simp; omega)
    rw [swR, e, h1]
    have e2 : x ++ (v' ++ (p :: y ++ (u' ++ q :: z))) = (x ++ v') ++ p :: ((y ++ u') ++ q :: z) := by simp
    rw [e2, sw_far (x ++ v') (y ++ u') z p q (a + n) (b + n) (by rw [List.length_append]; omega) (by rw [List.length_append, List.length_append]; rw [hb, List.length_append]; simp; omega)]
    simp
set_option maxRecDepth 100000 in
set_option maxHeartbeats 2000000 in
theorem rotate_calls (B : World) (g nn cap : Nat) (x u v z : List Ptr) (W : World) (a m b : Nat) (ha : a = x.length) (hm : m = a + u.length) (hb : b = m + v.length) (hu0 : 0 < u.length) (hv0 : 0 < v.length) (hn : nn ≤ 1000) (F : Value) (H : DR B g nn cap (x ++ (u ++ (v ++ z))) W) :
    Calls Try.prog 133 #[.slice (some ⟨g, 0, none⟩) nn cap, .int .i64 (a : Int), .int .i64 (m : Int), .int .i64 (b : Int), F] W fun e W' => e = .returned (.tuple #[]) ∧ DR B g nn cap (x ++ (v ++ (u ++ z))) W' := by
  have hlen : nn = x.length + (u.length + (v.length + z.length)) := by have := H.len; simp only [List.length_append] at this; omega
  have hbn : b ≤ nn := by omega
  have h1 : (m : Int) - (a : Int) = (u.length : Int) := by omega
  have h2 : (b : Int) - (m : Int) = (v.length : Int) := by omega
  have HE := Aside0.mk (And.intro ha (And.intro hm (And.intro hb hlen)))
  have ham : a ≤ m ∧ m ≤ b := by omega
  have H0 : Aside0 (DR B g nn cap (x ++ ([] ++ (u ++ (v ++ ([] ++ z))))) W) := ⟨by simpa using H⟩
  obtain ⟨P, hP⟩ : ∃ P : Ending → World → Prop, P = (fun e W' => e = .returned (.tuple #[]) ∧ DR B g nn cap (x ++ (v ++ (u ++ z))) W') := ⟨_, rfl⟩
  rw [← hP]
  have HP := Aside0.mk hP
  clear hP H ha hm hb hlen
  go_enter Try.func133, Try.ntmps133
  go_wp2
  clear h1 h2
  go_loopw [10, 11] (fun v10 v11 wr => ∃ (v1 u' v' u2 : List Ptr) (i j : Nat), v10 = .int .i64 (i : Int) ∧ v11 = .int .i64 (j : Int) ∧ 0 < i ∧ 0 < j ∧ i ≤ m ∧ i + j ≤ nn ∧ m + j ≤ nn ∧ Aside0 (u'.length = i) ∧ Aside0 (v'.length = j) ∧ Aside0 (m = x.length + v1.length + u'.length) ∧ Aside0 (v ++ u = v1 ++ v' ++ u' ++ u2) ∧ Aside0 (DR B g nn cap (x ++ (v1 ++ (u' ++ (v' ++ (u2 ++ z))))) wr)) (fun p q _ => (intOf p).toNat + (intOf q).toNat)
  case atStart => exact ⟨[], u, v, [], u.length, v.length, rfl, rfl, hu0, hv0, by have := HE.out; omega, by have := HE.out; omega, by have := HE.out; omega, ⟨rfl⟩, ⟨rfl⟩, ⟨by have := HE.out; simp; omega⟩, ⟨by simp⟩, H0⟩
  case round =>
    obtain ⟨v1, u', v', u2, i, j, rfl, rfl, hi0, hj0, him, hijn, hmj, HU, HV, HM, HT, H⟩ := hrel
    clear H0
    obtain ⟨k, hk⟩ : ∃ k, m = k + i := ⟨m - i, by omega⟩
    have hmk : (m : Int) - (i : Int) = (k : Int) := by omega
    have HK := Aside0.mk hk
    have HKX := Aside0.mk (show k = (x ++ v1).length by have := HM.out; have := HU.out; rw [List.length_append]; omega)
    have hkm : k + i ≤ m := by omega
    clear hk
    by_cases hij : i = j
    · have HIJ := Aside0.mk hij
      have hne : ((i : Int) != (j : Int)) = false := by simp [hij]
      clear hij
      go_wp2_with fail
      refine (swapRange_calls B g nn cap _ wr F k m i hkm (by have := HIJ.out; omega) hn H.out).mono ?_
      rintro e w2 ⟨rfl, h2⟩
      have HF := Aside0.mk (show DR B g nn cap (x ++ (v ++ (u ++ z))) w2 by
        have e1 : x ++ (v1 ++ (u' ++ (v' ++ (u2 ++ z)))) = (x ++ v1) ++ (u' ++ ([] ++ (v' ++ (u2 ++ z)))) := by simp
        rw [e1, swR_block i (x ++ v1) u' [] v' (u2 ++ z) k m HU.out (by rw [HV.out, HIJ.out]) HKX.out (by have := HKX.out; have := HK.out; have := HU.out; simp only [List.length_nil]; omega)] at h2
        have e2 : x ++ (v ++ (u ++ z)) = x ++ ((v ++ u) ++ z) := by simp
        rw [e2, HT.out]
        simpa using h2)
      clear h2
      go_wp2
      go_end0
      rw [HP.out]
      exact ⟨rfl, HF.out⟩
    · have hne : ((i : Int) != (j : Int)) = true := by simp; omega
      by_cases hgt : j < i
      · have dg : decide ((j : Int) < (i : Int)) = true := decide_eq_true (by omega)
        obtain ⟨i2, hi2⟩ : ∃ i2, i = i2 + j := ⟨i - j, by omega⟩
        have hij2 : (i : Int) - (j : Int) = (i2 : Int) := by omega
        have HI2 := Aside0.mk hi2
        have hb2 : 0 < i2 ∧ i2 ≤ m ∧ i2 + j ≤ nn ∧ k + j ≤ m := by omega
        clear hi2 hij
        go_wp2_with fail
        refine (swapRange_calls B g nn cap _ wr F k m j hb2.2.2.2 hmj hn H.out).mono ?_
        rintro e w2 ⟨rfl, h2⟩
        obtain ⟨pp, hpp⟩ : ∃ pp, pp = u'.take j := ⟨_, rfl⟩
        obtain ⟨rr, hrr⟩ : ∃ rr, rr = u'.drop j := ⟨_, rfl⟩
        have hu : u' = pp ++ rr := by rw [hpp, hrr, List.take_append_drop]
        have hpl : pp.length = j := by rw [hpp, List.length_take]; have := HU.out; omega
        have hrl : rr.length = i2 := by rw [hrr, List.length_drop]; have := HU.out; have := HI2.out; omega
        have HF := Aside0.mk (show DR B g nn cap (x ++ ((v1 ++ v') ++ (rr ++ (pp ++ (u2 ++ z))))) w2 by
          have e1 : x ++ (v1 ++ (u' ++ (v' ++ (u2 ++ z)))) = (x ++ v1) ++ (pp ++ (rr ++ (v' ++ (u2 ++ z)))) := by rw [hu]; simp
          rw [e1, swR_block j (x ++ v1) pp rr v' (u2 ++ z) k m hpl HV.out HKX.out (by have := HKX.out; have := HK.out; have := HI2.out; omega)] at h2
          simpa using h2)
        have HT2 := Aside0.mk (show v ++ u = (v1 ++ v') ++ pp ++ rr ++ u2 by rw [HT.out, hu]; simp)
        have HM2 := Aside0.mk (show m = x.length + (v1 ++ v').length + rr.length by have := HM.out; have := HU.out; have := HV.out; have := HI2.out; rw [List.length_append]; omega)
        have HL := Aside0.mk (And.intro hrl hpl)
        clear h2 hpp hrr hu hpl hrl
        go_wp2
        go_roundw
        case rel => exact ⟨v1 ++ v', rr, pp, u2, i2, j, rfl, rfl, hb2.1, hj0, hb2.2.1, hb2.2.2.1, hmj, ⟨HL.out.1⟩, ⟨HL.out.2⟩, HM2, HT2, HF⟩
        case measure => simp [intOf]; have := HI2.out; omega
      · have dg : decide ((j : Int) < (i : Int)) = false := decide_eq_false (by omega)
        obtain ⟨j2, hj2⟩ : ∃ j2, j = j2 + i := ⟨j - i, by omega⟩
        have hij2 : (j : Int) - (i : Int) = (j2 : Int) := by omega
        have hmji : (m : Int) + (j : Int) - (i : Int) = ((m + j2 : Nat) : Int) := by omega
        have HJ2 := Aside0.mk hj2
        have hb2 : 0 < j2 ∧ i + j2 ≤ nn ∧ m + j2 ≤ nn ∧ k + i ≤ m + j2 ∧ m + j2 + i ≤ nn := by omega
        clear hj2 hij
        go_wp2_with fail
        refine (swapRange_calls B g nn cap _ wr F k (m + j2) i hb2.2.2.2.1 hb2.2.2.2.2 hn H.out).mono ?_
        rintro e w2 ⟨rfl, h2⟩
        obtain ⟨rr, hrr⟩ : ∃ rr, rr = v'.take j2 := ⟨_, rfl⟩
        obtain ⟨pp, hpp⟩ : ∃ pp, pp = v'.drop j2 := ⟨_, rfl⟩
        have hu : v' = rr ++ pp := by rw [hpp, hrr, List.take_append_drop]
        have hrl : rr.length = j2 := by rw [hrr, List.length_take]; have := HV.out; have := HJ2.out; omega
        have hpl : pp.length = i := by rw [hpp, List.length_drop]; have := HV.out; have := HJ2.out; omega
        have HF := Aside0.mk (show DR B g nn cap (x ++ (v1 ++ (pp ++ (rr ++ ((u' ++ u2) ++ z))))) w2 by
          have e1 : x ++ (v1 ++ (u' ++ (v' ++ (u2 ++ z)))) = (x ++ v1) ++ (u' ++ (rr ++ (pp ++ (u2 ++ z)))) := by rw [hu]; simp
          rw [e1, swR_block i (x ++ v1) u' rr pp (u2 ++ z) k (m + j2) HU.out hpl HKX.out (by have := HKX.out; have := HK.out; have := HU.out; omega)] at h2
          simpa using h2)
        have HT2 := Aside0.mk (show v ++ u = v1 ++ rr ++ pp ++ (u' ++ u2) by rw [HT.out, hu]; simp)
        have HM2 := Aside0.mk (show m = x.length + v1.length + pp.length by have := HM.out; have := HU.out; omega)
        have HL := Aside0.mk (And.intro hrl hpl)
        clear h2 hpp hrr hu hpl hrl
        go_wp2
        go_roundw
        case rel => exact ⟨v1, pp, rr, u' ++ u2, i, j2, rfl, rfl, hi0, hb2.1, him, hb2.2.1, hb2.2.2.1, ⟨HL.out.2⟩, ⟨HL.out.1⟩, HM2, HT2, HF⟩
        case measure => simp [intOf]; have := HJ2.out; omega
end Go.Proofs.Ytfefpbnhpncmlaa.DeaT
namespace Go.Proofs.Ytfefpbnhpncmlaa.DeaU
open Go.RowKit Go.Proofs.Ytfefpbnhpncmlaa.EntL Go.Proofs.Ytfefpbnhpncmlaa.EntB Go.Proofs.Ytfefpbnhpncmlaa.EntC Go.Proofs.Ytfefpbnhpncmlaa.EntD Go.Proofs.Ytfefpbnhpncmlaa.EntE Go.Proofs.Ytfefpbnhpncmlaa.EntF Go.Proofs.Ytfefpbnhpncmlaa.CatR Go.Proofs.Ytfefpbnhpncmlaa.CatT Go.Proofs.Ytfefpbnhpncmlaa.CatU Go.Proofs.Ytfefpbnhpncmlaa.CatK Go.Proofs.Ytfefpbnhpncmlaa.CatS Go.Proofs.Ytfefpbnhpncmlaa.CatY Go.Proofs.Ytfefpbnhpncmlaa.RefG Go.Proofs.Ytfefpbnhpncmlaa.PtrB Go.Proofs.Ytfefpbnhpncmlaa.PtrG Go.Proofs.Ytfefpbnhpncmlaa.Agg Go.Proofs.Ytfefpbnhpncmlaa.B8 Go.Proofs.Ytfefpbnhpncmlaa.CodL Go.Proofs.Ytfefpbnhpncmlaa.CodA Go.Proofs.Ytfefpbnhpncmlaa.CodB Go.Proofs.Ytfefpbnhpncmlaa.CatL Go.Proofs.Ytfefpbnhpncmlaa.PtrA Go.Proofs.Ytfefpbnhpncmlaa.PtrE Go.Proofs.Ytfefpbnhpncmlaa.PtrF Go.Proofs.Ytfefpbnhpncmlaa.PBaseSigns Go.Proofs.YtfefpbnhpncmlaaW.PrintWords Go.Proofs.YtfefpbnhpncmlaaW.PrintLast Go.Proofs.YtfefpbnhpncmlaaW.PrintMore Go.Proofs.Ytfefpbnhpncmlaa.EntG Go.Proofs.Ytfefpbnhpncmlaa.StmA Go.Proofs.Ytfefpbnhpncmlaa.StmB Go.Proofs.Ytfefpbnhpncmlaa.StmC Go.Proofs.Ytfefpbnhpncmlaa.CrcC Go.Proofs.Ytfefpbnhpncmlaa.StmD Go.Proofs.Ytfefpbnhpncmlaa.StmE Go.Proofs.Ytfefpbnhpncmlaa.CrcL Go.Proofs.Ytfefpbnhpncmlaa.StmL Go.Proofs.Ytfefpbnhpncmlaa.StmF Go.Proofs.Ytfefpbnhpncmlaa.StmG Go.Proofs.Ytfefpbnhpncmlaa.StmH Go.Proofs.Ytfefpbnhpncmlaa.StmI Go.Proofs.Ytfefpbnhpncmlaa.StmJ Go.Proofs.Ytfefpbnhpncmlaa.StmK Go.Proofs.Ytfefpbnhpncmlaa.StmM Go.Proofs.Ytfefpbnhpncmlaa.StmN Go.Proofs.Ytfefpbnhpncmlaa.StmO Go.Proofs.Ytfefpbnhpncmlaa.StmP Go.Proofs.Ytfefpbnhpncmlaa.StmP Go.Proofs.Ytfefpbnhpncmlaa.DeaA Go.Proofs.Ytfefpbnhpncmlaa.DeaB Go.Proofs.Ytfefpbnhpncmlaa.DeaN Go.Proofs.Ytfefpbnhpncmlaa.DeaC Go.Proofs.Ytfefpbnhpncmlaa.DeaR Go.Proofs.Ytfefpbnhpncmlaa.DeaL Go.Proofs.Ytfefpbnhpncmlaa.DeaS Go.Proofs.Ytfefpbnhpncmlaa.DeaT
set_option linter.unusedVariables false
set_option linter.unusedSimpArgs false

/-- What symMerge leaves. -/
def TellsSym (B : World) (g nn cap : Nat) (l : List Ptr) (e : Ending) (W' : World) : Prop := e = .returned (.tuple #[]) ∧ DR B g nn cap l W'
theorem mrg_one_left {x : Ptr} {v1 v2 : List Ptr} (h1 : ∀ y ∈ v1, keyN y < keyN x) (h2 : ∀ y ∈ v2, keyN x ≤ keyN y) : mrg keyN [x] (v1 ++ v2) = v1 ++ x :: v2 := by
  rw [mrg_right_all _ _ _ (fun y hy z hz => by rw [List.mem_singleton.1 hz]; exact h1 y hy)]
  have := mrg_left_all (k := keyN) [x] [] v2 (fun z hz y hy => by rw [List.mem_singleton.1 hz]; exact h2 y hy)
  rw [List.append_nil, mrg_nil_left] at this
  rw [this]; rfl
theorem mrg_one_right {y : Ptr} {u1 u2 : List Ptr} (h1 : ∀ z ∈ u1, keyN z ≤ keyN y) (h2 : ∀ z ∈ u2, keyN y < keyN z) : mrg keyN (u1 ++ u2) [y] = u1 ++ y :: u2 := by
  rw [mrg_left_all _ _ _ (fun z hz w hw => by rw [List.mem_singleton.1 hw]; exact h1 z hz)]
  have := mrg_right_all (k := keyN) u2 [y] [] (fun w hw z hz => by rw [List.mem_singleton.1 hw]; exact h2 z hz)
  rw [List.append_nil, mrg_nil_right] at this
  rw [this]; rfl
/-- In a row in order what stands ahead is no greater. -/
theorem srt_le {l : List Ptr} (h : Srt keyN l) {i j : Nat} (hij : i ≤ j) (hj : j < l.length) : keyN (l.getD i zeroP) ≤ keyN (l.getD j zeroP) := by
  rw [List.getD_eq_getElem?_getD, List.getD_eq_getElem?_getD, List.getElem?_eq_getElem hj, List.getElem?_eq_getElem (by omega)]
  show keyN l[i] ≤ keyN l[j]
  by_cases he : i = j
  · subst he; exact Nat.le_refl _
  · exact (List.pairwise_iff_getElem.1 h) i j (by omega) hj (by omega)
theorem mem_take_at {l : List Ptr} {i : Nat} {z : Ptr} (h : z ∈ l.take i) : ∃ j, j < i ∧ j < l.length ∧ z = l.getD j zeroP := by
  obtain ⟨j, hj, rfl⟩ := List.getElem_of_mem h
  rw [List.length_take] at hj
  refine ⟨j, by omega, by omega, ?_⟩
  rw [List.getElem_take, List.getD_eq_getElem?_getD, List.getElem?_eq_getElem (by omega)]; rfl
theorem mem_drop_at {l : List Ptr} {i : Nat} {z : Ptr} (h : z ∈ l.drop i) : ∃ j, i ≤ j ∧ j < l.length ∧ z = l.getD j zeroP := by
  obtain ⟨j, hj, rfl⟩ := List.getElem_of_mem h
  rw [List.length_drop] at hj
  refine ⟨i + j, by omega, by omega, ?_⟩
  rw [List.getElem_drop, List.getD_eq_getElem?_getD, List.getElem?_eq_getElem (by omega)]; rfl
theorem getD_seg (pre s post : List Ptr) (i : Nat) (h1 : pre.length ≤ i) (h2 : i < pre.length + s.length) : (pre ++ (s ++ post)).getD i zeroP = s.getD (i - pre.length) zeroP := by
  rw [List.getD_eq_getElem?_getD, List.getD_eq_getElem?_getD, List.getElem?_append_right h1, List.getElem?_append_left (by omega)]
set_option maxRecDepth 100000 in
set_option maxHeartbeats 8000000 in
theorem sym1_calls (B : World) (g nn cap : Nat) (pre v post : List Ptr) (x : Ptr) (W : World) (a m b : Nat) (ha : a = pre.length) (hm : m = a + 1) (hb : b = m + v.length) (hn : nn ≤ 1000) (hsv : Srt keyN v) (H : DR B g nn cap (pre ++ (x :: (v ++ post))) W) :
    Calls Try.prog 129 #[.slice (some ⟨g, 0, none⟩) nn cap, .int .i64 (a : Int), .int .i64 (m : Int), .int .i64 (b : Int), .func (.func 82) #[] #[]] W (TellsSym B g nn cap (pre ++ (mrg keyN [x] v ++ post))) := by
  have hlen : nn = pre.length + (1 + v.length + post.length) := by have := H.len; simp only [List.length_append, List.length_cons] at this; omega
  have hbn : b ≤ nn ∧ m ≤ b ∧ a < nn := by omega
  have hma : (m : Int) - (a : Int) = 1 := by omega
  have HE := Aside0.mk (And.intro ha (And.intro hm (And.intro hb hlen)))
  have HSV := Aside0.mk hsv
  have H0 := Aside0.mk H
  obtain ⟨P, hP⟩ : ∃ P : Ending → World → Prop, P = TellsSym B g nn cap (pre ++ (mrg keyN [x] v ++ post)) := ⟨_, rfl⟩
  rw [← hP]
  have HP := Aside0.mk hP
  clear hP H ha hm hb hlen hsv
  go_enter Try.func129, Try.ntmps129
  go_wp2
  clear hma
  go_loopw [10, 11] (fun v10 v11 wr => ∃ (i j : Nat), v10 = .int .i64 (i : Int) ∧ v11 = .int .i64 (j : Int) ∧ m ≤ i ∧ i ≤ j ∧ j ≤ b ∧ Aside0 (∀ y ∈ v.take (i - m), keyN y < keyN x) ∧ Aside0 (∀ y ∈ v.drop (j - m), keyN x ≤ keyN y) ∧ Aside0 (DR B g nn cap (pre ++ (x :: (v ++ post))) wr)) (fun p q _ => (intOf q).toNat - (intOf p).toNat)
  case atStart => exact ⟨m, b, rfl, rfl, Nat.le_refl _, hbn.2.1, Nat.le_refl _, ⟨fun y hy => by rw [Nat.sub_self, List.take_zero] at hy; simp at hy⟩, ⟨fun y hy => by have := HE.out; rw [List.drop_of_length_le (by omega)] at hy; simp at hy⟩, H0⟩
  case round =>
    obtain ⟨i, j, rfl, rfl, hmi, hij, hjb, HT, HD2, H⟩ := hrel
    clear H0
    by_cases hlt : i < j
    · obtain ⟨h, hh⟩ : ∃ h, h = (i + j) / 2 := ⟨_, rfl⟩
      have hb3 : i ≤ h ∧ h < j := by omega
      have hhn : h < nn := by omega
      have hh2 : ((i : Int) + (j : Int)) / 2 = (h : Int) := by omega
      have HD := Aside0.mk (H.out.on (below_drew (Below.refl _ _)))
      clear hh H
      obtain ⟨ph, hph⟩ : ∃ ph, ph = v.getD (h - m) zeroP := ⟨_, rfl⟩
      have HPp := Aside0.mk (show Ok ph ∧ wr.drew.rangeAt g (h * 36) (encP ph).toList by
        have h1 := HD.out.at_ h (by omega)
        have e := getD_seg (pre ++ [x]) v post h (by have := HE.out; simp; omega) (by have := HE.out; simp; omega)
        have e2 : (pre ++ [x]) ++ (v ++ post) = pre ++ (x :: (v ++ post)) := by simp
        rw [e2] at e
        rw [e, show h - (pre ++ [x]).length = h - m by have := HE.out; simp; omega, ← hph] at h1
        exact h1)
      have HPq := Aside0.mk (show Ok x ∧ wr.drew.rangeAt g (a * 36) (encP x).toList by
        have h1 := HD.out.at_ a (by omega)
        rw [getD_mid pre x _ a HE.out.1] at h1
        exact h1)
      have HPH := Aside0.mk hph
      clear hph
      by_cases hk : keyN ph < keyN x
      · have ht : decide (tri (keyN ph) (keyN x) < 0) = true := by rw [tri_neg]; exact decide_eq_true hk
        have HT2 := Aside0.mk (show ∀ y ∈ v.take (h + 1 - m), keyN y < keyN x from fun y hy => by
          obtain ⟨q, hq1, hq2, rfl⟩ := mem_take_at hy
          have := srt_le HSV.out (i := q) (j := h - m) (by omega) (by have := HE.out; omega)
          rw [← HPH.out] at this
          omega)
        clear hk
        go_wp2
        refine wp_region_held_drew (S := fun w' => Below wr.drew.heap.size wr.drew w') (by kernel_rfl) (Below.refl _ _) (fun hW => ?_)
        generalize hWd : wr.drew = Wd at *
        clear hWd
        refine wpAnyH_take (i := 0) (oi := ⟨some 40, _, _, _, _, _⟩) (v := .func (.func 82) #[] #[]) rfl (by kernel_rfl) (by kernel_rfl) (by kernel_rfl) (fun _ _ _ h => h) (.inl ⟨by rfl, fun W1 h1 => by go_simp⟩) hW ?_
        try simp only [Act.put, List.setIfInBounds_toArray, List.set_cons_zero, List.set_cons_succ]
        refine wpAnyH_take (i := 1) (oi := ⟨some 41, _, _, _, _, _⟩) (v := .slice (some ⟨g, 0, none⟩) nn cap) rfl (by kernel_rfl) (by kernel_rfl) (by kernel_rfl) (fun _ _ _ h => h) (.inl ⟨by rfl, fun W1 h1 => by go_simp⟩) hW ?_
        try simp only [Act.put, List.setIfInBounds_toArray, List.set_cons_zero, List.set_cons_succ]
        refine wpAnyH_take (i := 2) (oi := ⟨some 42, _, _, _, _, _⟩) (v := .int .i64 (h : Int)) rfl (by kernel_rfl) (by kernel_rfl) (by kernel_rfl) (fun _ _ _ h => h) (.inl ⟨by rfl, fun W1 h1 => by go_simp⟩) hW ?_
        try simp only [Act.put, List.setIfInBounds_toArray, List.set_cons_zero, List.set_cons_succ]
        refine wpAnyH_take (i := 3) (oi := ⟨some 43, _, _, _, _, _⟩) (v := .pointer (some ⟨g, h * 36, none⟩)) rfl (by kernel_rfl) (by kernel_rfl) (by kernel_rfl) (fun _ _ _ h => h) (.inl ⟨by rfl, fun W1 h1 => by go_simp⟩) hW ?_
        try simp only [Act.put, List.setIfInBounds_toArray, List.set_cons_zero, List.set_cons_succ]
        refine wpAnyH_take (i := 4) (oi := ⟨some 44, _, _, _, _, _⟩) rfl (by kernel_rfl) (by kernel_rfl) (by kernel_rfl) (fun _ _ _ h => h) (yieldsIf_load_P (by rfl) _ rfl g (h * 36) ph HPp.out.1 rfl (fun W1 h1 => rangeAt_below HPp.out.2 h1 (blk_g HD.out))) hW ?_
        try simp only [Act.put, List.setIfInBounds_toArray, List.set_cons_zero, List.set_cons_succ]
        refine wpAnyH_take (i := 5) (oi := ⟨some 45, _, _, _, _, _⟩) (v := .slice (some ⟨g, 0, none⟩) nn cap) rfl (by kernel_rfl) (by kernel_rfl) (by kernel_rfl) (fun _ _ _ h => h) (.inl ⟨by rfl, fun W1 h1 => by go_simp⟩) hW ?_
        try simp only [Act.put, List.setIfInBounds_toArray, List.set_cons_zero, List.set_cons_succ]
        refine wpAnyH_take (i := 6) (oi := ⟨some 46, _, _, _, _, _⟩) (v := .int .i64 (a : Int)) rfl (by kernel_rfl) (by kernel_rfl) (by kernel_rfl) (fun _ _ _ h => h) (.inl ⟨by rfl, fun W1 h1 => by go_simp⟩) hW ?_
        try simp only [Act.put, List.setIfInBounds_toArray, List.set_cons_zero, List.set_cons_succ]
        refine wpAnyH_take (i := 7) (oi := ⟨some 47, _, _, _, _, _⟩) (v := .pointer (some ⟨g, a * 36, none⟩)) rfl (by kernel_rfl) (by kernel_rfl) (by kernel_rfl) (fun _ _ _ h => h) (.inl ⟨by rfl, fun W1 h1 => by go_simp⟩) hW ?_
        try simp only [Act.put, List.setIfInBounds_toArray, List.set_cons_zero, List.set_cons_succ]
        refine wpAnyH_take (i := 8) (oi := ⟨some 48, _, _, _, _, _⟩) rfl (by kernel_rfl) (by kernel_rfl) (by kernel_rfl) (fun _ _ _ h => h) (yieldsIf_load_P (by rfl) _ rfl g (a * 36) x HPq.out.1 rfl (fun W1 h1 => rangeAt_below HPq.out.2 h1 (blk_g HD.out))) hW ?_
        try simp only [Act.put, List.setIfInBounds_toArray, List.set_cons_zero, List.set_cons_succ]
        refine wpAnyH_ready (rs := [9]) (by kernel_rfl) (by simp) (AllReadyH.cons rfl (fun K1 hK1 => ?_) AllReadyH.nil)
        go_simp
        refine (compare_calls ph x HPp.out.1 HPq.out.1 Wd).mono ?_
        rintro e W1 ⟨rfl, hb1⟩
        have HV := Aside0.mk (HD.out.on hb1)
        refine hK1.out _ _ (below_then hW hW.size hb1) (fun hW => ?_)
        try simp only [Act.put, List.setIfInBounds_toArray, List.set_cons_zero, List.set_cons_succ]
        refine wpAnyH_take (i := 10) (oi := ⟨some 50, _, _, _, _, _⟩) (v := .bool true) rfl (by kernel_rfl) (by kernel_rfl) (by kernel_rfl) (fun _ _ _ h => h) (.inl ⟨by rfl, fun W1 h1 => by go_simp⟩) hW ?_
        try simp only [Act.put, List.setIfInBounds_toArray, List.set_cons_zero, List.set_cons_succ]
        refine wpAnyH_done (by kernel_rfl) ?_ _
        clear hW hb1 hK1 K1 HD
        go_wp2
        go_roundw
        case rel => exact ⟨h + 1, j, by go_num, rfl, by omega, by omega, hjb, HT2, HD2, HV⟩
        case measure => simp [intOf]; omega
      · have hf : decide (tri (keyN ph) (keyN x) < 0) = false := by rw [tri_neg]; exact decide_eq_false hk
        have HD3 := Aside0.mk (show ∀ y ∈ v.drop (h - m), keyN x ≤ keyN y from fun y hy => by
          obtain ⟨q, hq1, hq2, rfl⟩ := mem_drop_at hy
          have := srt_le HSV.out (i := h - m) (j := q) hq1 hq2
          rw [← HPH.out] at this
          omega)
        clear hk
        go_wp2
        refine wp_region_held_drew (S := fun w' => Below wr.drew.heap.size wr.drew w') (by kernel_rfl) (Below.refl _ _) (fun hW => ?_)
        generalize hWd : wr.drew = Wd at *
        clear hWd
        refine wpAnyH_take (i := 0) (oi := ⟨some 40, _, _, _, _, _⟩) (v := .func (.func 82) #[] #[]) rfl (by kernel_rfl) (by kernel_rfl) (by kernel_rfl) (fun _ _ _ h => h) (.inl ⟨by rfl, fun W1 h1 => by go_simp⟩) hW ?_
        try simp only [Act.put, List.setIfInBounds_toArray, List.set_cons_zero, List.set_cons_succ]
        refine wpAnyH_take (i := 1) (oi := ⟨some 41, _, _, _, _, _⟩) (v := .slice (some ⟨g, 0, none⟩) nn cap) rfl (by kernel_rfl) (by kernel_rfl) (by kernel_rfl) (fun _ _ _ h => h) (.inl ⟨by rfl, fun W1 h1 => by go_simp⟩) hW ?_
        try simp only [Act.put, List.setIfInBounds_toArray, List.set_cons_zero, List.set_cons_succ]
        refine wpAnyH_take (i := 2) (oi := ⟨some 42, _, _, _, _, _⟩) (v := .int .i64 (h : Int)) rfl (by kernel_rfl) (by kernel_rfl) (by kernel_rfl) (fun _ _ _ h => h) (.inl ⟨by rfl, fun W1 h1 => by go_simp⟩) hW ?_
        try simp only [Act.put, List.setIfInBounds_toArray, List.set_cons_zero, List.set_cons_succ]
        refine wpAnyH_take (i := 3) (oi := ⟨some 43, _, _, _, _, _⟩) (v := .pointer (some ⟨g, h * 36, none⟩)) rfl (by kernel_rfl) (by kernel_rfl) (by kernel_rfl) (fun _ _ _ h => h) (.inl ⟨by rfl, fun W1 h1 => by go_simp⟩) hW ?_
        try simp only [Act.put, List.setIfInBounds_toArray, List.set_cons_zero, List.set_cons_succ]
        refine wpAnyH_take (i := 4) (oi := ⟨some 44, _, _, _, _, _⟩) rfl (by kernel_rfl) (by kernel_rfl) (by kernel_rfl) (fun _ _ _ h => h) (yieldsIf_load_P (by rfl) _ rfl g (h * 36) ph HPp.out.1 rfl (fun W1 h1 => rangeAt_below HPp.out.2 h1 (blk_g HD.out))) hW ?_
        try simp only [Act.put, List.setIfInBounds_toArray, List.set_cons_zero, List.set_cons_succ]
        refine wpAnyH_take (i := 5) (oi := ⟨some 45, _, _, _, _, _⟩) (v := .slice (some ⟨g, 0, none⟩) nn cap) rfl (by kernel_rfl) (by kernel_rfl) (by kernel_rfl) (fun _ _ _ h => h) (.inl ⟨by rfl, fun W1 h1 => by go_simp⟩) hW ?_
        try simp only [Act.put, List.setIfInBounds_toArray, List.set_cons_zero, List.set_cons_succ]
        refine wpAnyH_take (i := 6) (oi := ⟨some 46, _, _, _, _, _⟩) (v := .int .i64 (a : Int)) rfl (by kernel_rfl) (by kernel_rfl) (by kernel_rfl) (fun _ _ _ h => h) (.inl ⟨by rfl, fun W1 h1 => by go_simp⟩) hW ?_
        try simp only [Act.put, List.setIfInBounds_toArray, List.set_cons_zero, List.set_cons_succ]
        refine wpAnyH_take (i := 7) (oi := ⟨some 47, _, _, _, _, _⟩) (v := .pointer (some ⟨g, a * 36, none⟩)) rfl (by kernel_rfl) (by kernel_rfl) (by kernel_rfl) (fun _ _ _ h => h) (.inl ⟨by rfl, fun W1 h1 => by go_simp⟩) hW ?_
        try simp only [Act.put, List.setIfInBounds_toArray, List.set_cons_zero, List.set_cons_succ]
        refine wpAnyH_take (i := 8) (oi := ⟨some 48, _, _, _, _, _⟩) rfl (by kernel_rfl) (by kernel_rfl) (by kernel_rfl) (fun _ _ _ h => h) (yieldsIf_load_P (by rfl) _ rfl g (a * 36) x HPq.out.1 rfl (fun W1 h1 => rangeAt_below HPq.out.2 h1 (blk_g HD.out))) hW ?_
        try simp only [Act.put, List.setIfInBounds_toArray, List.set_cons_zero, List.set_cons_succ]
        refine wpAnyH_ready (rs := [9]) (by kernel_rfl) (by simp) (AllReadyH.cons rfl (fun K1 hK1 => ?_) AllReadyH.nil)
        go_simp
        refine (compare_calls ph x HPp.out.1 HPq.out.1 Wd).mono ?_
        rintro e W1 ⟨rfl, hb1⟩
        have HV := Aside0.mk (HD.out.on hb1)
        refine hK1.out _ _ (below_then hW hW.size hb1) (fun hW => ?_)
        try simp only [Act.put, List.setIfInBounds_toArray, List.set_cons_zero, List.set_cons_succ]
        refine wpAnyH_take (i := 10) (oi := ⟨some 50, _, _, _, _, _⟩) (v := .bool false) rfl (by kernel_rfl) (by kernel_rfl) (by kernel_rfl) (fun _ _ _ h => h) (.inl ⟨by rfl, fun W1 h1 => by go_simp⟩) hW ?_
        try simp only [Act.put, List.setIfInBounds_toArray, List.set_cons_zero, List.set_cons_succ]
        refine wpAnyH_done (by kernel_rfl) ?_ _
        clear hW hb1 hK1 K1 HD
        go_wp2
        go_roundw
        case rel => exact ⟨i, h, rfl, rfl, hmi, by omega, by omega, HT, HD3, HV⟩
        case measure => simp [intOf]; omega
    · have HIJ := Aside0.mk (show i = j by omega)
      have di : decide ((i : Int) < (j : Int)) = false := decide_eq_false (by omega)
      obtain ⟨v1, hv1⟩ : ∃ v1, v1 = v.take (i - m) := ⟨_, rfl⟩
      obtain ⟨v2, hv2⟩ : ∃ v2, v2 = v.drop (i - m) := ⟨_, rfl⟩
      have HVV := Aside0.mk (show v = v1 ++ v2 by rw [hv1, hv2, List.take_append_drop])
      have HL1 := Aside0.mk (show i = m + v1.length by rw [hv1, List.length_take]; have := HE.out; omega)
      have HF := Aside0.mk (show pre ++ (mrg keyN [x] v ++ post) = pre ++ (v1 ++ x :: v2) ++ post by
        have h1 : ∀ y ∈ v1, keyN y < keyN x := by rw [hv1]; exact HT.out
        have h2 : ∀ y ∈ v2, keyN x ≤ keyN y := by rw [hv2, HIJ.out]; exact HD2.out
        rw [HVV.out, mrg_one_left h1 h2]; simp)
      have H1 := Aside0.mk (show DR B g nn cap ((pre ++ []) ++ x :: (v1 ++ (v2 ++ post))) wr by
        have := H.out
        rw [HVV.out] at this
        simpa using this)
      clear hv1 hv2 HT HD2 H
      have hi1 : 1 ≤ i ∧ i ≤ nn := by have := HE.out; omega
      go_wp2
      go_loopw [13] (fun v13 wr => ∃ (k : Nat) (va vb : List Ptr), v13 = .int .i64 (k : Int) ∧ k < nn ∧ Aside0 (v1 = va ++ vb) ∧ Aside0 (k = a + va.length) ∧ Aside0 (DR B g nn cap ((pre ++ va) ++ x :: (vb ++ (v2 ++ post))) wr)) (fun p _ => i - (intOf p).toNat)
      case atStart => exact ⟨a, [], v1, rfl, hbn.2.2, ⟨rfl⟩, ⟨by simp⟩, H1⟩
      case round =>
        obtain ⟨k, va, vb, rfl, hkn, HS, HK, H⟩ := hrel
        clear H1
        have hki : (k : Int) < (i : Int) - 1 ↔ vb ≠ [] := by
          have h1 := HS.out
          have h2 := congrArg List.length h1
          rw [List.length_append] at h2
          have := HE.out; have := HL1.out; have := HK.out
          constructor
          · intro h hvb; rw [hvb] at h2; simp at h2; omega
          · intro h; have := List.length_pos_iff.2 h; omega
        by_cases hvb : vb = []
        · have dk : decide ((k : Int) < (i : Int) - 1) = false := decide_eq_false (by rw [hki]; simp [hvb])
          subst hvb
          have HZ := Aside0.mk (show (pre ++ va) ++ x :: ([] ++ (v2 ++ post)) = pre ++ (mrg keyN [x] v ++ post) by rw [HF.out, HS.out]; simp)
          clear hki
          go_wp2
          go_end0
          rw [HP.out]
          exact ⟨rfl, by rw [← HZ.out]; exact H.out⟩
        · have dk : decide ((k : Int) < (i : Int) - 1) = true := decide_eq_true (hki.2 hvb)
          have hkli : (k : Int) < (i : Int) - 1 := hki.2 hvb
          clear hki
          obtain ⟨y, vb, rfl⟩ : ∃ y r, vb = y :: r := by cases vb with | nil => exact absurd rfl hvb | cons y r => exact ⟨y, r, rfl⟩
          obtain ⟨k1, hk1⟩ : ∃ k1, k1 = k + 1 := ⟨_, rfl⟩
          have hk1b : k + 1 ≤ k1 ∧ k1 ≤ k + 1 ∧ k1 < nn := by omega
          have HKU := Aside0.mk (show k = (pre ++ va).length by rw [List.length_append, ← HE.out.1]; exact HK.out)
          have HG := Aside0.mk (show DR B g nn cap ((pre ++ va) ++ x :: y :: (vb ++ (v2 ++ post))) wr.drew from H.out.on (below_drew (Below.refl _ _)))
          have HGk := Aside0.mk (show (Ok x ∧ wr.drew.rangeAt g (k * 36) (encP x).toList) ∧ (Ok y ∧ wr.drew.rangeAt g (k1 * 36) (encP y).toList) by
            have h1 := HG.out.at_ k hkn
            have h2 := HG.out.at_ k1 hk1b.2.2
            rw [getD_mid _ _ _ _ HKU.out] at h1
            rw [getD_mid2 _ _ _ _ _ (by rw [hk1, HKU.out])] at h2
            exact ⟨h1, h2⟩)
          have HSW := Aside0.mk (show (((pre ++ va) ++ x :: y :: (vb ++ (v2 ++ post))).set k y).set k1 x = (pre ++ (va ++ [y])) ++ x :: (vb ++ (v2 ++ post)) by
            rw [set_mid _ _ _ _ _ HKU.out]
            have e : (pre ++ va) ++ y :: y :: (vb ++ (v2 ++ post)) = ((pre ++ va) ++ [y]) ++ y :: (vb ++ (v2 ++ post)) := by simp
            rw [e, set_mid _ _ _ _ _ (by rw [hk1, HKU.out]; simp only [List.length_append, List.length_cons, List.length_nil])]; simp)
          have HS3 := Aside0.mk (show v1 = (va ++ [y]) ++ vb by rw [HS.out]; simp)
          have HK3 := Aside0.mk (show k1 = a + (va ++ [y]).length by rw [hk1, HK.out, List.length_append]; simp; omega)
          clear hk1 hvb H
          go_wp2
          refine wp_region_held_drew (S := fun _ => True) (by kernel_rfl) trivial (fun _ => ?_)
          generalize hWg : wr.drew = Wg at *
          clear hWg
          refine wpAnyH_take (i := 0) (oi := ⟨some 61, _, _, _, _, _⟩) (v := .slice (some ⟨g, 0, none⟩) nn cap) rfl (by kernel_rfl) (by kernel_rfl) (by kernel_rfl) (fun _ _ _ h => h) (.inl ⟨by rfl, fun W1 h1 => by go_simp⟩) trivial ?_
          try simp only [Act.put, List.setIfInBounds_toArray, List.set_cons_zero, List.set_cons_succ]
          refine wpAnyH_take (i := 1) (oi := ⟨some 62, _, _, _, _, _⟩) (v := .int .i64 (k : Int)) rfl (by kernel_rfl) (by kernel_rfl) (by kernel_rfl) (fun _ _ _ h => h) (.inl ⟨by rfl, fun W1 h1 => by go_simp⟩) trivial ?_
          try simp only [Act.put, List.setIfInBounds_toArray, List.set_cons_zero, List.set_cons_succ]
          refine wpAnyH_take (i := 2) (oi := ⟨some 63, _, _, _, _, _⟩) (v := .slice (some ⟨g, 0, none⟩) nn cap) rfl (by kernel_rfl) (by kernel_rfl) (by kernel_rfl) (fun _ _ _ h => h) (.inl ⟨by rfl, fun W1 h1 => by go_simp⟩) trivial ?_
          try simp only [Act.put, List.setIfInBounds_toArray, List.set_cons_zero, List.set_cons_succ]
          refine wpAnyH_take (i := 3) (oi := ⟨some 64, _, _, _, _, _⟩) (v := .int .i64 (k : Int)) rfl (by kernel_rfl) (by kernel_rfl) (by kernel_rfl) (fun _ _ _ h => h) (.inl ⟨by rfl, fun W1 h1 => by go_simp⟩) trivial ?_
          try simp only [Act.put, List.setIfInBounds_toArray, List.set_cons_zero, List.set_cons_succ]
          refine wpAnyH_take (i := 4) (oi := ⟨some 65, _, _, _, _, _⟩) (v := .int .i64 ((k : Int) + 1)) rfl (by kernel_rfl) (by kernel_rfl) (by kernel_rfl) (fun _ _ _ h => h) (.inl ⟨by rfl, fun W1 h1 => by go_simp; rw [IntKind.wrap_i64]; omega⟩) trivial ?_
          try simp only [Act.put, List.setIfInBounds_toArray, List.set_cons_zero, List.set_cons_succ]
          refine wpAnyH_take (i := 5) (oi := ⟨some 66, _, _, _, _, _⟩) (v := .slice (some ⟨g, 0, none⟩) nn cap) rfl (by kernel_rfl) (by kernel_rfl) (by kernel_rfl) (fun _ _ _ h => h) (.inl ⟨by rfl, fun W1 h1 => by go_simp⟩) trivial ?_
          try simp only [Act.put, List.setIfInBounds_toArray, List.set_cons_zero, List.set_cons_succ]
          refine wpAnyH_take (i := 6) (oi := ⟨some 67, _, _, _, _, _⟩) (v := .int .i64 (k : Int)) rfl (by kernel_rfl) (by kernel_rfl) (by kernel_rfl) (fun _ _ _ h => h) (.inl ⟨by rfl, fun W1 h1 => by go_simp⟩) trivial ?_
          try simp only [Act.put, List.setIfInBounds_toArray, List.set_cons_zero, List.set_cons_succ]
          refine wpAnyH_take (i := 7) (oi := ⟨some 68, _, _, _, _, _⟩) (v := .int .i64 ((k : Int) + 1)) rfl (by kernel_rfl) (by kernel_rfl) (by kernel_rfl) (fun _ _ _ h => h) (.inl ⟨by rfl, fun W1 h1 => by go_simp; rw [IntKind.wrap_i64]; omega⟩) trivial ?_
          try simp only [Act.put, List.setIfInBounds_toArray, List.set_cons_zero, List.set_cons_succ]
          refine wpAnyH_take (i := 8) (oi := ⟨some 69, _, _, _, _, _⟩) (v := .pointer (some ⟨g, k1 * 36, none⟩)) rfl (by kernel_rfl) (by kernel_rfl) (by kernel_rfl) (fun _ _ _ h => h) (.inl ⟨by rfl, fun W1 h1 => by go_simp; rw [show k + 1 = k1 by omega, if_pos (by omega)]⟩) trivial ?_
          try simp only [Act.put, List.setIfInBounds_toArray, List.set_cons_zero, List.set_cons_succ]
          refine wpAnyH_take (i := 10) (oi := ⟨some 71, _, _, _, _, _⟩) (v := .slice (some ⟨g, 0, none⟩) nn cap) rfl (by kernel_rfl) (by kernel_rfl) (by kernel_rfl) (fun _ _ _ h => h) (.inl ⟨by rfl, fun W1 h1 => by go_simp⟩) trivial ?_
          try simp only [Act.put, List.setIfInBounds_toArray, List.set_cons_zero, List.set_cons_succ]
          refine wpAnyH_take (i := 11) (oi := ⟨some 72, _, _, _, _, _⟩) (v := .int .i64 (k : Int)) rfl (by kernel_rfl) (by kernel_rfl) (by kernel_rfl) (fun _ _ _ h => h) (.inl ⟨by rfl, fun W1 h1 => by go_simp⟩) trivial ?_
          try simp only [Act.put, List.setIfInBounds_toArray, List.set_cons_zero, List.set_cons_succ]
          refine wpAnyH_take (i := 12) (oi := ⟨some 73, _, _, _, _, _⟩) (v := .pointer (some ⟨g, k * 36, none⟩)) rfl (by kernel_rfl) (by kernel_rfl) (by kernel_rfl) (fun _ _ _ h => h) (.inl ⟨by rfl, fun W1 h1 => by go_simp⟩) trivial ?_
          try simp only [Act.put, List.setIfInBounds_toArray, List.set_cons_zero, List.set_cons_succ]
          refine wpAnyH_ready (rs := [9, 13]) (by kernel_rfl) (by simp) (AllReadyH.cons rfl (fun L1 hL1 => ?_) (AllReadyH.cons rfl (fun L2 hL2 => ?_) AllReadyH.nil))
          · refine wp_load_P (o := ⟨some 70, _, _, _, _, _⟩) _ rfl g (k1 * 36) y rfl HGk.out.2.1 HGk.out.2.2 ?_
            refine hL1.out _ _ trivial (fun _ => ?_)
            try simp only [Act.put, List.setIfInBounds_toArray, List.set_cons_zero, List.set_cons_succ]
            refine wpAnyH_ready (rs := [13]) (by kernel_rfl) (by simp) (AllReadyH.cons rfl (fun L3 hL3 => ?_) AllReadyH.nil)
            refine wp_load_P (o := ⟨some 74, _, _, _, _, _⟩) _ rfl g (k * 36) x rfl HGk.out.1.1 HGk.out.1.2 ?_
            refine hL3.out _ _ trivial (fun _ => ?_)
            try simp only [Act.put, List.setIfInBounds_toArray, List.set_cons_zero, List.set_cons_succ]
            refine wpAnyH_take (i := 14) (oi := ⟨some 75, _, _, _, _, _⟩) (v := .pointer (some ⟨g, k * 36, none⟩)) rfl (by kernel_rfl) (by kernel_rfl) (by kernel_rfl) (fun _ _ _ h => h) (.inl ⟨by rfl, fun W1 h1 => by go_simp⟩) trivial ?_
            try simp only [Act.put, List.setIfInBounds_toArray, List.set_cons_zero, List.set_cons_succ]
            refine wpAnyH_ready (rs := [15]) (by kernel_rfl) (by simp) (AllReadyH.cons rfl (fun kS1 hkS1 => ?_) AllReadyH.nil)
            refine wp_store_mid (op := ⟨none, _, _, _, _, _⟩) 56 _ _ rfl g (k * 36) (encP y) rfl rfl (by rw [encP_size HGk.out.2.1.len]; exact HG.out.there k (by omega)) (si HGk.out.2.1.len) (PtrJ.a_enc y) ?_
            have HG1 := Aside0.mk (HG.out.store k (by omega) y HGk.out.2.1)
            refine hkS1.out _ _ trivial (fun _ => ?_)
            try simp only [Act.put, List.setIfInBounds_toArray, List.set_cons_zero, List.set_cons_succ]
            generalize hW1 : Wg.setCells g (k * 36) (encP y).toList = Ws1 at *
            clear hW1
            refine wpAnyH_take (i := 16) (oi := ⟨some 76, _, _, _, _, _⟩) (v := .pointer (some ⟨g, k1 * 36, none⟩)) rfl (by kernel_rfl) (by kernel_rfl) (by kernel_rfl) (fun _ _ _ h => h) (.inl ⟨by rfl, fun W1 h1 => by go_simp; rw [show k + 1 = k1 by omega, if_pos (by omega)]⟩) trivial ?_
            try simp only [Act.put, List.setIfInBounds_toArray, List.set_cons_zero, List.set_cons_succ]
            refine wpAnyH_ready (rs := [17]) (by kernel_rfl) (by simp) (AllReadyH.cons rfl (fun kS2 hkS2 => ?_) AllReadyH.nil)
            refine wp_store_mid (op := ⟨none, _, _, _, _, _⟩) 56 _ _ rfl g (k1 * 36) (encP x) rfl rfl (by rw [encP_size HGk.out.1.1.len]; exact HG1.out.there k1 (by omega)) (si HGk.out.1.1.len) (PtrJ.a_enc x) ?_
            have HG2 := Aside0.mk (HG1.out.store k1 (by omega) x HGk.out.1.1)
            refine hkS2.out _ _ trivial (fun _ => ?_)
            try simp only [Act.put, List.setIfInBounds_toArray, List.set_cons_zero, List.set_cons_succ]
            generalize hW2 : Ws1.setCells g (k1 * 36) (encP x).toList = Ws2 at *
            clear hW2
            refine wpAnyH_done (by kernel_rfl) ?_ _
            go_wp2
            go_roundw
            case rel => exact ⟨k1, va ++ [y], vb, by go_num, by omega, HS3, HK3, ⟨by rw [← HSW.out]; exact HG2.out⟩⟩
            case measure => simp [intOf]; omega
          · refine wp_load_P (o := ⟨some 74, _, _, _, _, _⟩) _ rfl g (k * 36) x rfl HGk.out.1.1 HGk.out.1.2 ?_
            refine hL2.out _ _ trivial (fun _ => ?_)
            try simp only [Act.put, List.setIfInBounds_toArray, List.set_cons_zero, List.set_cons_succ]
            refine wpAnyH_ready (rs := [9]) (by kernel_rfl) (by simp) (AllReadyH.cons rfl (fun L3 hL3 => ?_) AllReadyH.nil)
            refine wp_load_P (o := ⟨some 70, _, _, _, _, _⟩) _ rfl g (k1 * 36) y rfl HGk.out.2.1 HGk.out.2.2 ?_
            refine hL3.out _ _ trivial (fun _ => ?_)
            try simp only [Act.put, List.setIfInBounds_toArray, List.set_cons_zero, List.set_cons_succ]
            refine wpAnyH_take (i := 14) (oi := ⟨some 75, _, _, _, _, _⟩) (v := .pointer (some ⟨g, k * 36, none⟩)) rfl (by kernel_rfl) (by kernel_rfl) (by kernel_rfl) (fun _ _ _ h => h) (.inl ⟨by rfl, fun W1 h1 => by go_simp⟩) trivial ?_
            try simp only [Act.put, List.setIfInBounds_toArray, List.set_cons_zero, List.set_cons_succ]
            refine wpAnyH_ready (rs := [15]) (by kernel_rfl) (by simp) (AllReadyH.cons rfl (fun kS1 hkS1 => ?_) AllReadyH.nil)
            refine wp_store_mid (op := ⟨none, _, _, _, _, _⟩) 56 _ _ rfl g (k * 36) (encP y) rfl rfl (by rw [encP_size HGk.out.2.1.len]; exact HG.out.there k (by omega)) (si HGk.out.2.1.len) (PtrJ.a_enc y) ?_
            have HG1 := Aside0.mk (HG.out.store k (by omega) y HGk.out.2.1)
            refine hkS1.out _ _ trivial (fun _ => ?_)
            try simp only [Act.put, List.setIfInBounds_toArray, List.set_cons_zero, List.set_cons_succ]
            generalize hW1 : Wg.setCells g (k * 36) (encP y).toList = Ws1 at *
            clear hW1
            refine wpAnyH_take (i := 16) (oi := ⟨some 76, _, _, _, _, _⟩) (v := .pointer (some ⟨g, k1 * 36, none⟩)) rfl (by kernel_rfl) (by kernel_rfl) (by kernel_rfl) (fun _ _ _ h => h) (.inl ⟨by rfl, fun W1 h1 => by go_simp; rw [show k + 1 = k1 by omega, if_pos (by omega)]⟩) trivial ?_
            try simp only [Act.put, List.setIfInBounds_toArray, List.set_cons_zero, List.set_cons_succ]
            refine wpAnyH_ready (rs := [17]) (by kernel_rfl) (by simp) (AllReadyH.cons rfl (fun kS2 hkS2 => ?_) AllReadyH.nil)
            refine wp_store_mid (op := ⟨none, _, _, _, _, _⟩) 56 _ _ rfl g (k1 * 36) (encP x) rfl rfl (by rw [encP_size HGk.out.1.1.len]; exact HG1.out.there k1 (by omega)) (si HGk.out.1.1.len) (PtrJ.a_enc x) ?_
            have HG2 := Aside0.mk (HG1.out.store k1 (by omega) x HGk.out.1.1)
            refine hkS2.out _ _ trivial (fun _ => ?_)
            try simp only [Act.put, List.setIfInBounds_toArray, List.set_cons_zero, List.set_cons_succ]
            generalize hW2 : Ws1.setCells g (k1 * 36) (encP x).toList = Ws2 at *
            clear hW2
            refine wpAnyH_done (by kernel_rfl) ?_ _
            go_wp2
            go_roundw
            case rel => exact ⟨k1, va ++ [y], vb, by go_num, by omega, HS3, HK3, ⟨by rw [← HSW.out]; exact HG2.out⟩⟩
            case measure => simp [intOf]; omega
set_option maxRecDepth 100000 in
set_option maxHeartbeats 8000000 in
theorem sym2_calls (B : World) (g nn cap : Nat) (pre u post : List Ptr) (y : Ptr) (W : World) (a m b : Nat) (ha : a = pre.length) (hm : m = a + u.length) (hb : b = m + 1) (hu2 : 2 ≤ u.length) (hn : nn ≤ 1000) (hsu : Srt keyN u) (H : DR B g nn cap (pre ++ (u ++ (y :: post))) W) :
    Calls Try.prog 129 #[.slice (some ⟨g, 0, none⟩) nn cap, .int .i64 (a : Int), .int .i64 (m : Int), .int .i64 (b : Int), .func (.func 82) #[] #[]] W (TellsSym B g nn cap (pre ++ (mrg keyN u [y] ++ post))) := by
  have hlen : nn = pre.length + (u.length + (1 + post.length)) := by have := H.len; simp only [List.length_append, List.length_cons] at this; omega
  have hbn : m < nn ∧ a ≤ m ∧ b ≤ nn := by omega
  obtain ⟨d, hd⟩ : ∃ d, d = u.length := ⟨_, rfl⟩
  have hma : (m : Int) - (a : Int) = (d : Int) := by omega
  have hd1 : ((d : Int) == 1) = false := by simp; omega
  have hmb : (b : Int) - (m : Int) = 1 := by omega
  have HE := Aside0.mk (And.intro ha (And.intro hm (And.intro hb hlen)))
  have HSV := Aside0.mk hsu
  have H0 := Aside0.mk H
  obtain ⟨P, hP⟩ : ∃ P : Ending → World → Prop, P = TellsSym B g nn cap (pre ++ (mrg keyN u [y] ++ post)) := ⟨_, rfl⟩
  rw [← hP]
  have HP := Aside0.mk hP
  clear hP H ha hm hb hlen hsu hu2 hd
  go_enter Try.func129, Try.ntmps129
  go_wp2
  clear hma hmb hd1
  go_loopw [14, 15] (fun v14 v15 wr => ∃ (i j : Nat), v14 = .int .i64 (i : Int) ∧ v15 = .int .i64 (j : Int) ∧ a ≤ i ∧ i ≤ j ∧ j ≤ m ∧ Aside0 (∀ z ∈ u.take (i - a), keyN z ≤ keyN y) ∧ Aside0 (∀ z ∈ u.drop (j - a), keyN y < keyN z) ∧ Aside0 (DR B g nn cap (pre ++ (u ++ (y :: post))) wr)) (fun p q _ => (intOf q).toNat - (intOf p).toNat)
  case atStart => exact ⟨a, m, rfl, rfl, Nat.le_refl _, hbn.2.1, Nat.le_refl _, ⟨fun z hz => by rw [Nat.sub_self, List.take_zero] at hz; simp at hz⟩, ⟨fun z hz => by have := HE.out; rw [List.drop_of_length_le (by omega)] at hz; simp at hz⟩, H0⟩
  case round =>
    obtain ⟨i, j, rfl, rfl, hmi, hij, hjb, HT, HD2, H⟩ := hrel
    clear H0
    by_cases hlt : i < j
    · obtain ⟨h, hh⟩ : ∃ h, h = (i + j) / 2 := ⟨_, rfl⟩
      have hb3 : i ≤ h ∧ h < j := by omega
      have hhn : h < nn := by omega
      have hh2 : ((i : Int) + (j : Int)) / 2 = (h : Int) := by omega
      have HD := Aside0.mk (H.out.on (below_drew (Below.refl _ _)))
      clear hh H
      obtain ⟨ph, hph⟩ : ∃ ph, ph = u.getD (h - a) zeroP := ⟨_, rfl⟩
      have HPq := Aside0.mk (show Ok ph ∧ wr.drew.rangeAt g (h * 36) (encP ph).toList by
        have h1 := HD.out.at_ h (by omega)
        have e := getD_seg pre u (y :: post) h (by have := HE.out; omega) (by have := HE.out; omega)
        rw [e, show h - pre.length = h - a by have := HE.out; omega, ← hph] at h1
        exact h1)
      have HPp := Aside0.mk (show Ok y ∧ wr.drew.rangeAt g (m * 36) (encP y).toList by
        have h1 := HD.out.at_ m (by omega)
        rw [← List.append_assoc, getD_mid (pre ++ u) y _ m (by have := HE.out; rw [List.length_append]; omega)] at h1
        exact h1)
      have HPH := Aside0.mk hph
      clear hph
      by_cases hk : keyN y < keyN ph
      · have ht : decide (tri (keyN y) (keyN ph) < 0) = true := by rw [tri_neg]; exact decide_eq_true hk
        have HD3 := Aside0.mk (show ∀ z ∈ u.drop (h - a), keyN y < keyN z from fun z hz => by
          obtain ⟨q, hq1, hq2, rfl⟩ := mem_drop_at hz
          have := srt_le HSV.out (i := h - a) (j := q) hq1 hq2
          rw [← HPH.out] at this
          omega)
        clear hk
        go_wp2
        refine wp_region_held_drew (S := fun w' => Below wr.drew.heap.size wr.drew w') (by kernel_rfl) (Below.refl _ _) (fun hW => ?_)
        generalize hWd : wr.drew = Wd at *
        clear hWd
        refine wpAnyH_take (i := 0) (oi := ⟨some 92, _, _, _, _, _⟩) (v := .func (.func 82) #[] #[]) rfl (by kernel_rfl) (by kernel_rfl) (by kernel_rfl) (fun _ _ _ h => h) (.inl ⟨by rfl, fun W1 h1 => by go_simp⟩) hW ?_
        try simp only [Act.put, List.setIfInBounds_toArray, List.set_cons_zero, List.set_cons_succ]
        refine wpAnyH_take (i := 1) (oi := ⟨some 93, _, _, _, _, _⟩) (v := .slice (some ⟨g, 0, none⟩) nn cap) rfl (by kernel_rfl) (by kernel_rfl) (by kernel_rfl) (fun _ _ _ h => h) (.inl ⟨by rfl, fun W1 h1 => by go_simp⟩) hW ?_
        try simp only [Act.put, List.setIfInBounds_toArray, List.set_cons_zero, List.set_cons_succ]
        refine wpAnyH_take (i := 2) (oi := ⟨some 94, _, _, _, _, _⟩) (v := .int .i64 (m : Int)) rfl (by kernel_rfl) (by kernel_rfl) (by kernel_rfl) (fun _ _ _ h => h) (.inl ⟨by rfl, fun W1 h1 => by go_simp⟩) hW ?_
        try simp only [Act.put, List.setIfInBounds_toArray, List.set_cons_zero, List.set_cons_succ]
        refine wpAnyH_take (i := 3) (oi := ⟨some 95, _, _, _, _, _⟩) (v := .pointer (some ⟨g, m * 36, none⟩)) rfl (by kernel_rfl) (by kernel_rfl) (by kernel_rfl) (fun _ _ _ h => h) (.inl ⟨by rfl, fun W1 h1 => by go_simp⟩) hW ?_
        try simp only [Act.put, List.setIfInBounds_toArray, List.set_cons_zero, List.set_cons_succ]
        refine wpAnyH_take (i := 4) (oi := ⟨some 96, _, _, _, _, _⟩) rfl (by kernel_rfl) (by kernel_rfl) (by kernel_rfl) (fun _ _ _ h => h) (yieldsIf_load_P (by rfl) _ rfl g (m * 36) y HPp.out.1 rfl (fun W1 h1 => rangeAt_below HPp.out.2 h1 (blk_g HD.out))) hW ?_
        try simp only [Act.put, List.setIfInBounds_toArray, List.set_cons_zero, List.set_cons_succ]
        refine wpAnyH_take (i := 5) (oi := ⟨some 97, _, _, _, _, _⟩) (v := .slice (some ⟨g, 0, none⟩) nn cap) rfl (by kernel_rfl) (by kernel_rfl) (by kernel_rfl) (fun _ _ _ h => h) (.inl ⟨by rfl, fun W1 h1 => by go_simp⟩) hW ?_
        try simp only [Act.put, List.setIfInBounds_toArray, List.set_cons_zero, List.set_cons_succ]
        refine wpAnyH_take (i := 6) (oi := ⟨some 98, _, _, _, _, _⟩) (v := .int .i64 (h : Int)) rfl (by kernel_rfl) (by kernel_rfl) (by kernel_rfl) (fun _ _ _ h => h) (.inl ⟨by rfl, fun W1 h1 => by go_simp⟩) hW ?_
        try simp only [Act.put, List.setIfInBounds_toArray, List.set_cons_zero, List.set_cons_succ]
        refine wpAnyH_take (i := 7) (oi := ⟨some 99, _, _, _, _, _⟩) (v := .pointer (some ⟨g, h * 36, none⟩)) rfl (by kernel_rfl) (by kernel_rfl) (by kernel_rfl) (fun _ _ _ h => h) (.inl ⟨by rfl, fun W1 h1 => by go_simp⟩) hW ?_
        try simp only [Act.put, List.setIfInBounds_toArray, List.set_cons_zero, List.set_cons_succ]
        refine wpAnyH_take (i := 8) (oi := ⟨some 100, _, _, _, _, _⟩) rfl (by kernel_rfl) (by kernel_rfl) (by kernel_rfl) (fun _ _ _ h => h) (yieldsIf_load_P (by rfl) _ rfl g (h * 36) ph HPq.out.1 rfl (fun W1 h1 => rangeAt_below HPq.out.2 h1 (blk_g HD.out))) hW ?_
        try simp only [Act.put, List.setIfInBounds_toArray, List.set_cons_zero, List.set_cons_succ]
        refine wpAnyH_ready (rs := [9]) (by kernel_rfl) (by simp) (AllReadyH.cons rfl (fun K1 hK1 => ?_) AllReadyH.nil)
        go_simp
        refine (compare_calls y ph HPp.out.1 HPq.out.1 Wd).mono ?_
        rintro e W1 ⟨rfl, hb1⟩
        have HV := Aside0.mk (HD.out.on hb1)
        refine hK1.out _ _ (below_then hW hW.size hb1) (fun hW => ?_)
        try simp only [Act.put, List.setIfInBounds_toArray, List.set_cons_zero, List.set_cons_succ]
        refine wpAnyH_take (i := 10) (oi := ⟨some 102, _, _, _, _, _⟩) (v := .bool true) rfl (by kernel_rfl) (by kernel_rfl) (by kernel_rfl) (fun _ _ _ h => h) (.inl ⟨by rfl, fun W1 h1 => by go_simp⟩) hW ?_
        try simp only [Act.put, List.setIfInBounds_toArray, List.set_cons_zero, List.set_cons_succ]
        refine wpAnyH_take (i := 11) (oi := ⟨some 103, _, _, _, _, _⟩) (v := .bool false) rfl (by kernel_rfl) (by kernel_rfl) (by kernel_rfl) (fun _ _ _ h => h) (.inl ⟨by rfl, fun W1 h1 => by go_simp⟩) hW ?_
        try simp only [Act.put, List.setIfInBounds_toArray, List.set_cons_zero, List.set_cons_succ]
        refine wpAnyH_done (by kernel_rfl) ?_ _
        clear hW hb1 hK1 K1 HD
        go_wp2
        go_roundw
        case rel => exact ⟨i, h, rfl, rfl, hmi, by omega, by omega, HT, HD3, HV⟩
        case measure => simp [intOf]; omega
      · have hf : decide (tri (keyN y) (keyN ph) < 0) = false := by rw [tri_neg]; exact decide_eq_false hk
        have HT2 := Aside0.mk (show ∀ z ∈ u.take (h + 1 - a), keyN z ≤ keyN y from fun z hz => by
          obtain ⟨q, hq1, hq2, rfl⟩ := mem_take_at hz
          have := srt_le HSV.out (i := q) (j := h - a) (by omega) (by have := HE.out; omega)
          rw [← HPH.out] at this
          omega)
        clear hk
        go_wp2
        refine wp_region_held_drew (S := fun w' => Below wr.drew.heap.size wr.drew w') (by kernel_rfl) (Below.refl _ _) (fun hW => ?_)
        generalize hWd : wr.drew = Wd at *
        clear hWd
        refine wpAnyH_take (i := 0) (oi := ⟨some 92, _, _, _, _, _⟩) (v := .func (.func 82) #[] #[]) rfl (by kernel_rfl) (by kernel_rfl) (by kernel_rfl) (fun _ _ _ h => h) (.inl ⟨by rfl, fun W1 h1 => by go_simp⟩) hW ?_
        try simp only [Act.put, List.setIfInBounds_toArray, List.set_cons_zero, List.set_cons_succ]
        refine wpAnyH_take (i := 1) (oi := ⟨some 93, _, _, _, _, _⟩) (v := .slice (some ⟨g, 0, none⟩) nn cap) rfl (by kernel_rfl) (by kernel_rfl) (by kernel_rfl) (fun _ _ _ h => h) (.inl ⟨by rfl, fun W1 h1 => by go_simp⟩) hW ?_
        try simp only [Act.put, List.setIfInBounds_toArray, List.set_cons_zero, List.set_cons_succ]
        refine wpAnyH_take (i := 2) (oi := ⟨some 94, _, _, _, _, _⟩) (v := .int .i64 (m : Int)) rfl (by kernel_rfl) (by kernel_rfl) (by kernel_rfl) (fun _ _ _ h => h) (.inl ⟨by rfl, fun W1 h1 => by go_simp⟩) hW ?_
        try simp only [Act.put, List.setIfInBounds_toArray, List.set_cons_zero, List.set_cons_succ]
        refine wpAnyH_take (i := 3) (oi := ⟨some 95, _, _, _, _, _⟩) (v := .pointer (some ⟨g, m * 36, none⟩)) rfl (by kernel_rfl) (by kernel_rfl) (by kernel_rfl) (fun _ _ _ h => h) (.inl ⟨by rfl, fun W1 h1 => by go_simp⟩) hW ?_
        try simp only [Act.put, List.setIfInBounds_toArray, List.set_cons_zero, List.set_cons_succ]
        refine wpAnyH_take (i := 4) (oi := ⟨some 96, _, _, _, _, _⟩) rfl (by kernel_rfl) (by kernel_rfl) (by kernel_rfl) (fun _ _ _ h => h) (yieldsIf_load_P (by rfl) _ rfl g (m * 36) y HPp.out.1 rfl (fun W1 h1 => rangeAt_below HPp.out.2 h1 (blk_g HD.out))) hW ?_
        try simp only [Act.put, List.setIfInBounds_toArray, List.set_cons_zero, List.set_cons_succ]
        refine wpAnyH_take (i := 5) (oi := ⟨some 97, _, _, _, _, _⟩) (v := .slice (some ⟨g, 0, none⟩) nn cap) rfl (by kernel_rfl) (by kernel_rfl) (by kernel_rfl) (fun _ _ _ h => h) (.inl ⟨by rfl, fun W1 h1 => by go_simp⟩) hW ?_
        try simp only [Act.put, List.setIfInBounds_toArray, List.set_cons_zero, List.set_cons_succ]
        refine wpAnyH_take (i := 6) (oi := ⟨some 98, _, _, _, _, _⟩) (v := .int .i64 (h : Int)) rfl (by kernel_rfl) (by kernel_rfl) (by kernel_rfl) (fun _ _ _ h => h) (.inl ⟨by rfl, fun W1 h1 => by go_simp⟩) hW ?_
        try simp only [Act.put, List.setIfInBounds_toArray, List.set_cons_zero, List.set_cons_succ]
        refine wpAnyH_take (i := 7) (oi := ⟨some 99, _, _, _, _, _⟩) (v := .pointer (some ⟨g, h * 36, none⟩)) rfl (by kernel_rfl) (by kernel_rfl) (by kernel_rfl) (fun _ _ _ h => h) (.inl ⟨by rfl, fun W1 h1 => by go_simp⟩) hW ?_
        try simp only [Act.put, List.setIfInBounds_toArray, List.set_cons_zero, List.set_cons_succ]
        refine wpAnyH_take (i := 8) (oi := ⟨some 100, _, _, _, _, _⟩) rfl (by kernel_rfl) (by kernel_rfl) (by kernel_rfl) (fun _ _ _ h => h) (yieldsIf_load_P (by rfl) _ rfl g (h * 36) ph HPq.out.1 rfl (fun W1 h1 => rangeAt_below HPq.out.2 h1 (blk_g HD.out))) hW ?_
        try simp only [Act.put, List.setIfInBounds_toArray, List.set_cons_zero, List.set_cons_succ]
        refine wpAnyH_ready (rs := [9]) (by kernel_rfl) (by simp) (AllReadyH.cons rfl (fun K1 hK1 => ?_) AllReadyH.nil)
        go_simp
        refine (compare_calls y ph HPp.out.1 HPq.out.1 Wd).mono ?_
        rintro e W1 ⟨rfl, hb1⟩
        have HV := Aside0.mk (HD.out.on hb1)
        refine hK1.out _ _ (below_then hW hW.size hb1) (fun hW => ?_)
        try simp only [Act.put, List.setIfInBounds_toArray, List.set_cons_zero, List.set_cons_succ]
        refine wpAnyH_take (i := 10) (oi := ⟨some 102, _, _, _, _, _⟩) (v := .bool false) rfl (by kernel_rfl) (by kernel_rfl) (by kernel_rfl) (fun _ _ _ h => h) (.inl ⟨by rfl, fun W1 h1 => by go_simp⟩) hW ?_
        try simp only [Act.put, List.setIfInBounds_toArray, List.set_cons_zero, List.set_cons_succ]
        refine wpAnyH_take (i := 11) (oi := ⟨some 103, _, _, _, _, _⟩) (v := .bool true) rfl (by kernel_rfl) (by kernel_rfl) (by kernel_rfl) (fun _ _ _ h => h) (.inl ⟨by rfl, fun W1 h1 => by go_simp⟩) hW ?_
        try simp only [Act.put, List.setIfInBounds_toArray, List.set_cons_zero, List.set_cons_succ]
        refine wpAnyH_done (by kernel_rfl) ?_ _
        clear hW hb1 hK1 K1 HD
        go_wp2
        go_roundw
        case rel => exact ⟨h + 1, j, by go_num, rfl, by omega, by omega, hjb, HT2, HD2, HV⟩
        case measure => simp [intOf]; omega
    · have HIJ := Aside0.mk (show i = j by omega)
      have di : decide ((i : Int) < (j : Int)) = false := decide_eq_false (by omega)
      obtain ⟨u1, hu1⟩ : ∃ u1, u1 = u.take (i - a) := ⟨_, rfl⟩
      obtain ⟨w2, hw2⟩ : ∃ w2, w2 = u.drop (i - a) := ⟨_, rfl⟩
      have HVV := Aside0.mk (show u = u1 ++ w2 by rw [hu1, hw2, List.take_append_drop])
      have HL1 := Aside0.mk (show i = a + u1.length by rw [hu1, List.length_take]; have := HE.out; omega)
      have HF := Aside0.mk (show pre ++ (mrg keyN u [y] ++ post) = pre ++ (u1 ++ y :: w2) ++ post by
        have h1 : ∀ z ∈ u1, keyN z ≤ keyN y := by rw [hu1]; exact HT.out
        have h2 : ∀ z ∈ w2, keyN y < keyN z := by rw [hw2, HIJ.out]; exact HD2.out
        rw [HVV.out, mrg_one_right h1 h2]; simp)
      have H1 := Aside0.mk (show DR B g nn cap ((pre ++ u1 ++ w2) ++ y :: ([] ++ post)) wr by
        have := H.out
        rw [HVV.out] at this
        simpa using this)
      clear hu1 hw2 HT HD2 H
      have hi1 : i ≤ m := by omega
      go_wp2
      go_loopw [17] (fun v17 wr => ∃ (k : Nat) (ua ub : List Ptr), v17 = .int .i64 (k : Int) ∧ k < nn ∧ i ≤ k ∧ Aside0 (w2 = ua ++ ub) ∧ Aside0 (k = i + ua.length) ∧ Aside0 (DR B g nn cap ((pre ++ u1 ++ ua) ++ y :: (ub ++ post)) wr)) (fun p _ => (intOf p).toNat)
      case atStart => exact ⟨m, w2, [], rfl, hbn.1, hi1, ⟨by simp⟩, ⟨by have := HE.out; have := HL1.out; have h3 := congrArg List.length HVV.out; rw [List.length_append] at h3; omega⟩, H1⟩
      case round =>
        obtain ⟨k, ua, ub, rfl, hkn, hik, HS, HK, H⟩ := hrel
        clear H1
        by_cases hua : ua = []
        · subst hua
          have hki : k ≤ i := by have := HK.out; simp at this; omega
          have hnk : ¬ (i < k) := by omega
          have HZ := Aside0.mk (show (pre ++ u1 ++ []) ++ y :: (ub ++ post) = pre ++ (mrg keyN u [y] ++ post) by rw [HF.out, HS.out]; simp)
          go_wp2
          go_end0
          rw [HP.out]
          exact ⟨rfl, by rw [← HZ.out]; exact H.out⟩
        · have hki : i < k := by have := HK.out; have := List.length_pos_iff.2 hua; omega
          obtain ⟨ua, z, rfl⟩ : ∃ r z, ua = r ++ [z] := ⟨ua.dropLast, ua.getLast hua, (List.dropLast_concat_getLast hua).symm⟩
          obtain ⟨k1, hk1⟩ : ∃ k1, k = k1 + 1 := ⟨k - 1, by omega⟩
          have hk1b : k ≤ k1 + 1 ∧ k1 + 1 ≤ k ∧ k1 < nn := by omega
          have HKU := Aside0.mk (show k1 = (pre ++ u1 ++ ua).length ∧ k = k1 + 1 by
            have := HK.out; have := HL1.out; have := HE.out
            simp only [List.length_append, List.length_cons, List.length_nil] at *
            omega)
          have ecur : (pre ++ u1 ++ (ua ++ [z])) ++ y :: (ub ++ post) = (pre ++ u1 ++ ua) ++ z :: y :: (ub ++ post) := by simp
          have HG := Aside0.mk (show DR B g nn cap ((pre ++ u1 ++ ua) ++ z :: y :: (ub ++ post)) wr.drew by rw [← ecur]; exact H.out.on (below_drew (Below.refl _ _)))
          have HGk := Aside0.mk (show (Ok y ∧ wr.drew.rangeAt g (k * 36) (encP y).toList) ∧ (Ok z ∧ wr.drew.rangeAt g (k1 * 36) (encP z).toList) by
            have h1 := HG.out.at_ k hkn
            have h2 := HG.out.at_ k1 hk1b.2.2
            rw [getD_mid2 _ _ _ _ _ (by rw [← HKU.out.1]; exact HKU.out.2)] at h1
            rw [getD_mid _ _ _ _ HKU.out.1] at h2
            exact ⟨h1, h2⟩)
          have HSW := Aside0.mk (show (((pre ++ u1 ++ ua) ++ z :: y :: (ub ++ post)).set k z).set k1 y = (pre ++ u1 ++ ua) ++ y :: ((z :: ub) ++ post) by
            rw [set_two _ _ _ _ _ _ HKU.out.1 HKU.out.2]; simp)
          have HS3 := Aside0.mk (show w2 = ua ++ (z :: ub) by rw [HS.out]; simp)
          have HK3 := Aside0.mk (show k1 = i + ua.length by have := HK.out; rw [List.length_append] at this; simp at this; omega)
          clear hk1 hua H ecur
          go_wp2
          refine wp_region_held_drew (S := fun _ => True) (by kernel_rfl) trivial (fun _ => ?_)
          generalize hWg : wr.drew = Wg at *
          clear hWg
          refine wpAnyH_take (i := 0) (oi := ⟨some 113, _, _, _, _, _⟩) (v := .slice (some ⟨g, 0, none⟩) nn cap) rfl (by kernel_rfl) (by kernel_rfl) (by kernel_rfl) (fun _ _ _ h => h) (.inl ⟨by rfl, fun W1 h1 => by go_simp⟩) trivial ?_
          try simp only [Act.put, List.setIfInBounds_toArray, List.set_cons_zero, List.set_cons_succ]
          refine wpAnyH_take (i := 1) (oi := ⟨some 114, _, _, _, _, _⟩) (v := .int .i64 (k : Int)) rfl (by kernel_rfl) (by kernel_rfl) (by kernel_rfl) (fun _ _ _ h => h) (.inl ⟨by rfl, fun W1 h1 => by go_simp⟩) trivial ?_
          try simp only [Act.put, List.setIfInBounds_toArray, List.set_cons_zero, List.set_cons_succ]
          refine wpAnyH_take (i := 2) (oi := ⟨some 115, _, _, _, _, _⟩) (v := .slice (some ⟨g, 0, none⟩) nn cap) rfl (by kernel_rfl) (by kernel_rfl) (by kernel_rfl) (fun _ _ _ h => h) (.inl ⟨by rfl, fun W1 h1 => by go_simp⟩) trivial ?_
          try simp only [Act.put, List.setIfInBounds_toArray, List.set_cons_zero, List.set_cons_succ]
          refine wpAnyH_take (i := 3) (oi := ⟨some 116, _, _, _, _, _⟩) (v := .int .i64 (k : Int)) rfl (by kernel_rfl) (by kernel_rfl) (by kernel_rfl) (fun _ _ _ h => h) (.inl ⟨by rfl, fun W1 h1 => by go_simp⟩) trivial ?_
          try simp only [Act.put, List.setIfInBounds_toArray, List.set_cons_zero, List.set_cons_succ]
          refine wpAnyH_take (i := 4) (oi := ⟨some 117, _, _, _, _, _⟩) (v := .int .i64 ((k : Int) - 1)) rfl (by kernel_rfl) (by kernel_rfl) (by kernel_rfl) (fun _ _ _ h => h) (.inl ⟨by rfl, fun W1 h1 => by go_simp; rw [IntKind.wrap_i64]; omega⟩) trivial ?_
          try simp only [Act.put, List.setIfInBounds_toArray, List.set_cons_zero, List.set_cons_succ]
          refine wpAnyH_take (i := 5) (oi := ⟨some 118, _, _, _, _, _⟩) (v := .slice (some ⟨g, 0, none⟩) nn cap) rfl (by kernel_rfl) (by kernel_rfl) (by kernel_rfl) (fun _ _ _ h => h) (.inl ⟨by rfl, fun W1 h1 => by go_simp⟩) trivial ?_
          try simp only [Act.put, List.setIfInBounds_toArray, List.set_cons_zero, List.set_cons_succ]
          refine wpAnyH_take (i := 6) (oi := ⟨some 119, _, _, _, _, _⟩) (v := .int .i64 (k : Int)) rfl (by kernel_rfl) (by kernel_rfl) (by kernel_rfl) (fun _ _ _ h => h) (.inl ⟨by rfl, fun W1 h1 => by go_simp⟩) trivial ?_
          try simp only [Act.put, List.setIfInBounds_toArray, List.set_cons_zero, List.set_cons_succ]
          refine wpAnyH_take (i := 7) (oi := ⟨some 120, _, _, _, _, _⟩) (v := .int .i64 ((k : Int) - 1)) rfl (by kernel_rfl) (by kernel_rfl) (by kernel_rfl) (fun _ _ _ h => h) (.inl ⟨by rfl, fun W1 h1 => by go_simp; rw [IntKind.wrap_i64]; omega⟩) trivial ?_
          try simp only [Act.put, List.setIfInBounds_toArray, List.set_cons_zero, List.set_cons_succ]
          refine wpAnyH_take (i := 8) (oi := ⟨some 121, _, _, _, _, _⟩) (v := .pointer (some ⟨g, k1 * 36, none⟩)) rfl (by kernel_rfl) (by kernel_rfl) (by kernel_rfl) (fun _ _ _ h => h) (.inl ⟨by rfl, fun W1 h1 => by go_simp; rw [show k - 1 = k1 by omega, if_pos (by omega)]⟩) trivial ?_
          try simp only [Act.put, List.setIfInBounds_toArray, List.set_cons_zero, List.set_cons_succ]
          refine wpAnyH_take (i := 10) (oi := ⟨some 123, _, _, _, _, _⟩) (v := .slice (some ⟨g, 0, none⟩) nn cap) rfl (by kernel_rfl) (by kernel_rfl) (by kernel_rfl) (fun _ _ _ h => h) (.inl ⟨by rfl, fun W1 h1 => by go_simp⟩) trivial ?_
          try simp only [Act.put, List.setIfInBounds_toArray, List.set_cons_zero, List.set_cons_succ]
          refine wpAnyH_take (i := 11) (oi := ⟨some 124, _, _, _, _, _⟩) (v := .int .i64 (k : Int)) rfl (by kernel_rfl) (by kernel_rfl) (by kernel_rfl) (fun _ _ _ h => h) (.inl ⟨by rfl, fun W1 h1 => by go_simp⟩) trivial ?_
          try simp only [Act.put, List.setIfInBounds_toArray, List.set_cons_zero, List.set_cons_succ]
          refine wpAnyH_take (i := 12) (oi := ⟨some 125, _, _, _, _, _⟩) (v := .pointer (some ⟨g, k * 36, none⟩)) rfl (by kernel_rfl) (by kernel_rfl) (by kernel_rfl) (fun _ _ _ h => h) (.inl ⟨by rfl, fun W1 h1 => by go_simp⟩) trivial ?_
          try simp only [Act.put, List.setIfInBounds_toArray, List.set_cons_zero, List.set_cons_succ]
          refine wpAnyH_ready (rs := [9, 13]) (by kernel_rfl) (by simp) (AllReadyH.cons rfl (fun L1 hL1 => ?_) (AllReadyH.cons rfl (fun L2 hL2 => ?_) AllReadyH.nil))
          · refine wp_load_P (o := ⟨some 122, _, _, _, _, _⟩) _ rfl g (k1 * 36) z rfl HGk.out.2.1 HGk.out.2.2 ?_
            refine hL1.out _ _ trivial (fun _ => ?_)
            try simp only [Act.put, List.setIfInBounds_toArray, List.set_cons_zero, List.set_cons_succ]
            refine wpAnyH_ready (rs := [13]) (by kernel_rfl) (by simp) (AllReadyH.cons rfl (fun L3 hL3 => ?_) AllReadyH.nil)
            refine wp_load_P (o := ⟨some 126, _, _, _, _, _⟩) _ rfl g (k * 36) y rfl HGk.out.1.1 HGk.out.1.2 ?_
            refine hL3.out _ _ trivial (fun _ => ?_)
            try simp only [Act.put, List.setIfInBounds_toArray, List.set_cons_zero, List.set_cons_succ]
            refine wpAnyH_take (i := 14) (oi := ⟨some 127, _, _, _, _, _⟩) (v := .pointer (some ⟨g, k * 36, none⟩)) rfl (by kernel_rfl) (by kernel_rfl) (by kernel_rfl) (fun _ _ _ h => h) (.inl ⟨by rfl, fun W1 h1 => by go_simp⟩) trivial ?_
            try simp only [Act.put, List.setIfInBounds_toArray, List.set_cons_zero, List.set_cons_succ]
            refine wpAnyH_ready (rs := [15]) (by kernel_rfl) (by simp) (AllReadyH.cons rfl (fun kS1 hkS1 => ?_) AllReadyH.nil)
            refine wp_store_mid (op := ⟨none, _, _, _, _, _⟩) 56 _ _ rfl g (k * 36) (encP z) rfl rfl (by rw [encP_size HGk.out.2.1.len]; exact HG.out.there k (by omega)) (si HGk.out.2.1.len) (PtrJ.a_enc z) ?_
            have HG1 := Aside0.mk (HG.out.store k (by omega) z HGk.out.2.1)
            refine hkS1.out _ _ trivial (fun _ => ?_)
            try simp only [Act.put, List.setIfInBounds_toArray, List.set_cons_zero, List.set_cons_succ]
            generalize hW1 : Wg.setCells g (k * 36) (encP z).toList = Ws1 at *
            clear hW1
            refine wpAnyH_take (i := 16) (oi := ⟨some 128, _, _, _, _, _⟩) (v := .pointer (some ⟨g, k1 * 36, none⟩)) rfl (by kernel_rfl) (by kernel_rfl) (by kernel_rfl) (fun _ _ _ h => h) (.inl ⟨by rfl, fun W1 h1 => by go_simp; rw [show k - 1 = k1 by omega, if_pos (by omega)]⟩) trivial ?_
            try simp only [Act.put, List.setIfInBounds_toArray, List.set_cons_zero, List.set_cons_succ]
            refine wpAnyH_ready (rs := [17]) (by kernel_rfl) (by simp) (AllReadyH.cons rfl (fun kS2 hkS2 => ?_) AllReadyH.nil)
            refine wp_store_mid (op := ⟨none, _, _, _, _, _⟩) 56 _ _ rfl g (k1 * 36) (encP y) rfl rfl (by rw [encP_size HGk.out.1.1.len]; exact HG1.out.there k1 (by omega)) (si HGk.out.1.1.len) (PtrJ.a_enc y) ?_
            have HG2 := Aside0.mk (HG1.out.store k1 (by omega) y HGk.out.1.1)
            refine hkS2.out _ _ trivial (fun _ => ?_)
            try simp only [Act.put, List.setIfInBounds_toArray, List.set_cons_zero, List.set_cons_succ]
            generalize hW2 : Ws1.setCells g (k1 * 36) (encP y).toList = Ws2 at *
            clear hW2
            refine wpAnyH_done (by kernel_rfl) ?_ _
            go_wp2
            go_roundw
            case rel => exact ⟨k1, ua, z :: ub, by go_num, by omega, by omega, HS3, HK3, ⟨by rw [← HSW.out]; exact HG2.out⟩⟩
            case measure => simp [intOf]; omega
          · refine wp_load_P (o := ⟨some 126, _, _, _, _, _⟩) _ rfl g (k * 36) y rfl HGk.out.1.1 HGk.out.1.2 ?_
            refine hL2.out _ _ trivial (fun _ => ?_)
            try simp only [Act.put, List.setIfInBounds_toArray, List.set_cons_zero, List.set_cons_succ]
            refine wpAnyH_ready (rs := [9]) (by kernel_rfl) (by simp) (AllReadyH.cons rfl (fun L3 hL3 => ?_) AllReadyH.nil)
            refine wp_load_P (o := ⟨some 122, _, _, _, _, _⟩) _ rfl g (k1 * 36) z rfl HGk.out.2.1 HGk.out.2.2 ?_
            refine hL3.out _ _ trivial (fun _ => ?_)
            try simp only [Act.put, List.setIfInBounds_toArray, List.set_cons_zero, List.set_cons_succ]
            refine wpAnyH_take (i := 14) (oi := ⟨some 127, _, _, _, _, _⟩) (v := .pointer (some ⟨g, k * 36, none⟩)) rfl (by kernel_rfl) (by kernel_rfl) (by kernel_rfl) (fun _ _ _ h => h) (.inl ⟨by rfl, fun W1 h1 => by go_simp⟩) trivial ?_
            try simp only [Act.put, List.setIfInBounds_toArray, List.set_cons_zero, List.set_cons_succ]
            refine wpAnyH_ready (rs := [15]) (by kernel_rfl) (by simp) (AllReadyH.cons rfl (fun kS1 hkS1 => ?_) AllReadyH.nil)
            refine wp_store_mid (op := ⟨none, _, _, _, _, _⟩) 56 _ _ rfl g (k * 36) (encP z) rfl rfl (by rw [encP_size HGk.out.2.1.len]; exact HG.out.there k (by omega)) (si HGk.out.2.1.len) (PtrJ.a_enc z) ?_
            have HG1 := Aside0.mk (HG.out.store k (by omega) z HGk.out.2.1)
            refine hkS1.out _ _ trivial (fun _ => ?_)
            try simp only [Act.put, List.setIfInBounds_toArray, List.set_cons_zero, List.set_cons_succ]
            generalize hW1 : Wg.setCells g (k * 36) (encP z).toList = Ws1 at *
            clear hW1
            refine wpAnyH_take (i := 16) (oi := ⟨some 128, _, _, _, _, _⟩) (v := .pointer (some ⟨g, k1 * 36, none⟩)) rfl (by kernel_rfl) (by kernel_rfl) (by kernel_rfl) (fun _ _ _ h => h) (.inl ⟨by rfl, fun W1 h1 => by go_simp; rw [show k - 1 = k1 by omega, if_pos (by omega)]⟩) trivial ?_
            try simp only [Act.put, List.setIfInBounds_toArray, List.set_cons_zero, List.set_cons_succ]
            refine wpAnyH_ready (rs := [17]) (by kernel_rfl) (by simp) (AllReadyH.cons rfl (fun kS2 hkS2 => ?_) AllReadyH.nil)
            refine wp_store_mid (op := ⟨none, _, _, _, _, _⟩) 56 _ _ rfl g (k1 * 36) (encP y) rfl rfl (by rw [encP_size HGk.out.1.1.len]; exact HG1.out.there k1 (by omega)) (si HGk.out.1.1.len) (PtrJ.a_enc y) ?_
            have HG2 := Aside0.mk (HG1.out.store k1 (by omega) y HGk.out.1.1)
            refine hkS2.out _ _ trivial (fun _ => ?_)
            try simp only [Act.put, List.setIfInBounds_toArray, List.set_cons_zero, List.set_cons_succ]
            generalize hW2 : Ws1.setCells g (k1 * 36) (encP y).toList = Ws2 at *
            clear hW2
            refine wpAnyH_done (by kernel_rfl) ?_ _
            go_wp2
            go_roundw
            case rel => exact ⟨k1, ua, z :: ub, by go_num, by omega, by omega, HS3, HK3, ⟨by rw [← HSW.out]; exact HG2.out⟩⟩
            case measure => simp [intOf]; omega
end Go.Proofs.Ytfefpbnhpncmlaa.DeaU
