/- Own texts, one behind the other, each with what the claim uses of it: WLast WTab WFour WQPut WApart WArr WZeros WFoot WKept WShare WN WFootNe WAt WEqStruct WRepsOne WInv WInvWords WGuard WNEv WMore B8 CodL Shelf CodA CodB CodC CatL PtrA PtrB PtrE PtrF PtrG RefA RefD RefE PtrH Agg PtrI PtrK PtrJ PtrL RefF RefB RefC RefG PtrC RefH RefI CatS CatK CatM CatN CatO CatR CatT CatU CatW CatV CatX EntL EntA EntB EntC StmA CatY EntD EntE EntF EntG StmB StmC CrcL CrcA CrcB CrcC StmD StmE StmL StmF StmG StmH. -/
import Derived.Test.YtfefpbnhpncmlaaChecked
import GoSem.Claim
import GoSem.ClaimJoined
import GoSem.ClaimMapViews
import Derived.JoinedTies
import Derived.KernelRfl
import Derived.Test.YtfefpbnhpncmlaaProg
import Derived.Below
import Derived.Deep.Draws
import Derived.Deep.AppendLies
import Derived.Maps.AppendAt
import Derived.OwnWalk
import Derived.Laws.BytesArg
import Derived.Laws.MakeOwn
import Derived.Laws.OwnMore
import Derived.Deep.OwnRows
import Derived.Tactics
import Derived.Lib.ConvBytes
import Derived.Laws.Slices
import Derived.WalkKit
import Derived.RowKit3
import Derived.Deep.LoopGhost
import Derived.Deep.QuietTactic
import Derived.BigQuiet
import Derived.WideLaws
import Derived.Deep.DeepCutAuto
import Derived.Deep.CutBlock
import Derived.Deep.RegionHeld3
import Derived.Laws.Rows
import Derived.Lib.AppendStr
import Derived.ArgAppend
import Derived.Laws.IdiomCopy
import Derived.OrdersHeld
import Derived.Laws.BitsLemmas
import Derived.RowKit
import Derived.Laws.StructEq
import Derived.Deep.Slices
import Derived.Shelf.Strconv.Itoa0
import Derived.Outline
import Derived.Lib.EndianBits
import Derived.Deep.WholeRow
import Derived.WalkSpells
import Derived.WalkSmall
import Derived.Laws.Tables
import Derived.Deep.MidRow
import Derived.Laws.CopyOwn
import Derived.Laws.Cover3
import Derived.LoopN
import Derived.Lib.SlBytesConst
import Derived.Lib.SmallJoins
import Derived.OpenShut
import Derived.SizedLaws
import Derived.ChangeSlices
import Derived.ProofKit
import Derived.ShutString
import Derived.ChangeOld
import Derived.Test.YtfefpbnhpncmlaaWSized
import Derived.Test.YtfefpbnhpncmlaaWWords
namespace Go.Proofs.Ytfefpbnhpncmlaa.Agg
end Go.Proofs.Ytfefpbnhpncmlaa.Agg
namespace Go.Proofs.Ytfefpbnhpncmlaa.B8
end Go.Proofs.Ytfefpbnhpncmlaa.B8
namespace Go.Proofs.Ytfefpbnhpncmlaa.CatK
end Go.Proofs.Ytfefpbnhpncmlaa.CatK
namespace Go.Proofs.Ytfefpbnhpncmlaa.CatL
end Go.Proofs.Ytfefpbnhpncmlaa.CatL
namespace Go.Proofs.Ytfefpbnhpncmlaa.CatM
end Go.Proofs.Ytfefpbnhpncmlaa.CatM
namespace Go.Proofs.Ytfefpbnhpncmlaa.CatN
end Go.Proofs.Ytfefpbnhpncmlaa.CatN
namespace Go.Proofs.Ytfefpbnhpncmlaa.CatO
end Go.Proofs.Ytfefpbnhpncmlaa.CatO
namespace Go.Proofs.Ytfefpbnhpncmlaa.CatR
end Go.Proofs.Ytfefpbnhpncmlaa.CatR
namespace Go.Proofs.Ytfefpbnhpncmlaa.CatS
end Go.Proofs.Ytfefpbnhpncmlaa.CatS
namespace Go.Proofs.Ytfefpbnhpncmlaa.CatT
end Go.Proofs.Ytfefpbnhpncmlaa.CatT
namespace Go.Proofs.Ytfefpbnhpncmlaa.CatU
end Go.Proofs.Ytfefpbnhpncmlaa.CatU
namespace Go.Proofs.Ytfefpbnhpncmlaa.CatV
end Go.Proofs.Ytfefpbnhpncmlaa.CatV
namespace Go.Proofs.Ytfefpbnhpncmlaa.CatW
end Go.Proofs.Ytfefpbnhpncmlaa.CatW
namespace Go.Proofs.Ytfefpbnhpncmlaa.CatX
end Go.Proofs.Ytfefpbnhpncmlaa.CatX
namespace Go.Proofs.Ytfefpbnhpncmlaa.CatY
end Go.Proofs.Ytfefpbnhpncmlaa.CatY
namespace Go.Proofs.Ytfefpbnhpncmlaa.CatZ
end Go.Proofs.Ytfefpbnhpncmlaa.CatZ
namespace Go.Proofs.Ytfefpbnhpncmlaa.CodA
end Go.Proofs.Ytfefpbnhpncmlaa.CodA
namespace Go.Proofs.Ytfefpbnhpncmlaa.CodB
end Go.Proofs.Ytfefpbnhpncmlaa.CodB
namespace Go.Proofs.Ytfefpbnhpncmlaa.CodC
end Go.Proofs.Ytfefpbnhpncmlaa.CodC
namespace Go.Proofs.Ytfefpbnhpncmlaa.CodL
end Go.Proofs.Ytfefpbnhpncmlaa.CodL
namespace Go.Proofs.Ytfefpbnhpncmlaa.CrcA
end Go.Proofs.Ytfefpbnhpncmlaa.CrcA
namespace Go.Proofs.Ytfefpbnhpncmlaa.CrcB
end Go.Proofs.Ytfefpbnhpncmlaa.CrcB
namespace Go.Proofs.Ytfefpbnhpncmlaa.CrcC
end Go.Proofs.Ytfefpbnhpncmlaa.CrcC
namespace Go.Proofs.Ytfefpbnhpncmlaa.CrcL
end Go.Proofs.Ytfefpbnhpncmlaa.CrcL
namespace Go.Proofs.Ytfefpbnhpncmlaa.CrcM
end Go.Proofs.Ytfefpbnhpncmlaa.CrcM
namespace Go.Proofs.Ytfefpbnhpncmlaa.EntA
end Go.Proofs.Ytfefpbnhpncmlaa.EntA
namespace Go.Proofs.Ytfefpbnhpncmlaa.EntB
end Go.Proofs.Ytfefpbnhpncmlaa.EntB
namespace Go.Proofs.Ytfefpbnhpncmlaa.EntC
end Go.Proofs.Ytfefpbnhpncmlaa.EntC
namespace Go.Proofs.Ytfefpbnhpncmlaa.EntD
end Go.Proofs.Ytfefpbnhpncmlaa.EntD
namespace Go.Proofs.Ytfefpbnhpncmlaa.EntE
end Go.Proofs.Ytfefpbnhpncmlaa.EntE
namespace Go.Proofs.Ytfefpbnhpncmlaa.EntF
end Go.Proofs.Ytfefpbnhpncmlaa.EntF
namespace Go.Proofs.Ytfefpbnhpncmlaa.EntG
end Go.Proofs.Ytfefpbnhpncmlaa.EntG
namespace Go.Proofs.Ytfefpbnhpncmlaa.EntH
end Go.Proofs.Ytfefpbnhpncmlaa.EntH
namespace Go.Proofs.Ytfefpbnhpncmlaa.EntI
end Go.Proofs.Ytfefpbnhpncmlaa.EntI
namespace Go.Proofs.Ytfefpbnhpncmlaa.EntJ
end Go.Proofs.Ytfefpbnhpncmlaa.EntJ
namespace Go.Proofs.Ytfefpbnhpncmlaa.EntL
end Go.Proofs.Ytfefpbnhpncmlaa.EntL
namespace Go.Proofs.Ytfefpbnhpncmlaa.EntZ
end Go.Proofs.Ytfefpbnhpncmlaa.EntZ
namespace Go.Proofs.Ytfefpbnhpncmlaa.PBaseSigns
end Go.Proofs.Ytfefpbnhpncmlaa.PBaseSigns
namespace Go.Proofs.Ytfefpbnhpncmlaa.PtrA
end Go.Proofs.Ytfefpbnhpncmlaa.PtrA
namespace Go.Proofs.Ytfefpbnhpncmlaa.PtrB
end Go.Proofs.Ytfefpbnhpncmlaa.PtrB
namespace Go.Proofs.Ytfefpbnhpncmlaa.PtrE
end Go.Proofs.Ytfefpbnhpncmlaa.PtrE
namespace Go.Proofs.Ytfefpbnhpncmlaa.PtrF
end Go.Proofs.Ytfefpbnhpncmlaa.PtrF
namespace Go.Proofs.Ytfefpbnhpncmlaa.PtrG
end Go.Proofs.Ytfefpbnhpncmlaa.PtrG
namespace Go.Proofs.Ytfefpbnhpncmlaa.PtrH
end Go.Proofs.Ytfefpbnhpncmlaa.PtrH
namespace Go.Proofs.Ytfefpbnhpncmlaa.PtrI
end Go.Proofs.Ytfefpbnhpncmlaa.PtrI
namespace Go.Proofs.Ytfefpbnhpncmlaa.PtrJ
end Go.Proofs.Ytfefpbnhpncmlaa.PtrJ
namespace Go.Proofs.Ytfefpbnhpncmlaa.PtrK
end Go.Proofs.Ytfefpbnhpncmlaa.PtrK
namespace Go.Proofs.Ytfefpbnhpncmlaa.RefA
end Go.Proofs.Ytfefpbnhpncmlaa.RefA
namespace Go.Proofs.Ytfefpbnhpncmlaa.RefG
end Go.Proofs.Ytfefpbnhpncmlaa.RefG
namespace Go.Proofs.Ytfefpbnhpncmlaa.StmA
end Go.Proofs.Ytfefpbnhpncmlaa.StmA
namespace Go.Proofs.Ytfefpbnhpncmlaa.StmB
end Go.Proofs.Ytfefpbnhpncmlaa.StmB
namespace Go.Proofs.Ytfefpbnhpncmlaa.StmC
end Go.Proofs.Ytfefpbnhpncmlaa.StmC
namespace Go.Proofs.Ytfefpbnhpncmlaa.StmD
end Go.Proofs.Ytfefpbnhpncmlaa.StmD
namespace Go.Proofs.Ytfefpbnhpncmlaa.StmE
end Go.Proofs.Ytfefpbnhpncmlaa.StmE
namespace Go.Proofs.Ytfefpbnhpncmlaa.StmF
end Go.Proofs.Ytfefpbnhpncmlaa.StmF
namespace Go.Proofs.Ytfefpbnhpncmlaa.StmG
end Go.Proofs.Ytfefpbnhpncmlaa.StmG
namespace Go.Proofs.Ytfefpbnhpncmlaa.StmH
end Go.Proofs.Ytfefpbnhpncmlaa.StmH
namespace Go.Proofs.Ytfefpbnhpncmlaa.StmI
end Go.Proofs.Ytfefpbnhpncmlaa.StmI
namespace Go.Proofs.Ytfefpbnhpncmlaa.StmJ
end Go.Proofs.Ytfefpbnhpncmlaa.StmJ
namespace Go.Proofs.Ytfefpbnhpncmlaa.StmK
end Go.Proofs.Ytfefpbnhpncmlaa.StmK
namespace Go.Proofs.Ytfefpbnhpncmlaa.StmL
end Go.Proofs.Ytfefpbnhpncmlaa.StmL
namespace Go.Proofs.Ytfefpbnhpncmlaa.StmM
end Go.Proofs.Ytfefpbnhpncmlaa.StmM
namespace Go.Proofs.Ytfefpbnhpncmlaa.StmN
end Go.Proofs.Ytfefpbnhpncmlaa.StmN
namespace Go.Proofs.Ytfefpbnhpncmlaa.StmO
end Go.Proofs.Ytfefpbnhpncmlaa.StmO
namespace Go.Proofs.Ytfefpbnhpncmlaa.StmP
end Go.Proofs.Ytfefpbnhpncmlaa.StmP
namespace Go.Proofs.Ytfefpbnhpncmlaa.StmQ
end Go.Proofs.Ytfefpbnhpncmlaa.StmQ
namespace Go.Proofs.Ytfefpbnhpncmlaa.StmR
end Go.Proofs.Ytfefpbnhpncmlaa.StmR
namespace Go.Proofs.Ytfefpbnhpncmlaa.StmS
end Go.Proofs.Ytfefpbnhpncmlaa.StmS
namespace Go.Proofs.Ytfefpbnhpncmlaa.StmT
end Go.Proofs.Ytfefpbnhpncmlaa.StmT
namespace Go.Proofs.Ytfefpbnhpncmlaa.StmU
end Go.Proofs.Ytfefpbnhpncmlaa.StmU
namespace Go.Proofs.Ytfefpbnhpncmlaa.StmV
end Go.Proofs.Ytfefpbnhpncmlaa.StmV
namespace Go.Proofs.Ytfefpbnhpncmlaa.StmX
end Go.Proofs.Ytfefpbnhpncmlaa.StmX
namespace Go.Proofs.Ytfefpbnhpncmlaa.StmY
end Go.Proofs.Ytfefpbnhpncmlaa.StmY
namespace Go.Proofs.YtfefpbnhpncmlaaW.Opens
end Go.Proofs.YtfefpbnhpncmlaaW.Opens
namespace Go.Proofs.YtfefpbnhpncmlaaW.PrintLast
end Go.Proofs.YtfefpbnhpncmlaaW.PrintLast
namespace Go.Proofs.YtfefpbnhpncmlaaW.PrintMore
end Go.Proofs.YtfefpbnhpncmlaaW.PrintMore
namespace Go.Proofs.YtfefpbnhpncmlaaW.PrintWords
end Go.Proofs.YtfefpbnhpncmlaaW.PrintWords
namespace Go.Proofs.YtfefpbnhpncmlaaW.PrintWords.Kd
end Go.Proofs.YtfefpbnhpncmlaaW.PrintWords.Kd
-- PRINTED BY print.sh 35421559b90ae4d0a3588c463048766b98c2df88dd9212a6774a882060cdf62d: not written by this session
/-
  PRINTED WORDS, second file: A REGION THAT DRAWS ITS ORDER, WALKED BY HAND, where its last store writes what its own loads read ('x.f = append(x.f, f(i))'). Plain theorems; no macro, no elab. A claim may hold it (turn the namespace's name).
  A load may be taken first in every world that meets S; behind the operations of ds nothing is shown; sound because each of ds waits for what is taken (Region.lastB). The kernel checks it.
  By an AI agent of Go's test side, Mon Nov 16 2026. No person has read it.
-/
namespace Go.Proofs.YtfefpbnhpncmlaaW.PrintLast

section
variable {P : Program} {ops : Array Oper} {Q : Exit → Act → World → Prop} {md : Region.Mode} {S : World → Prop} {ds : List Nat}

end

section
variable {P : Program} {ops : Array Oper} {Q : Exit → Act → World → Prop} {md : Region.Mode} {S : World → Prop} {ds : List Nat}

end
end Go.Proofs.YtfefpbnhpncmlaaW.PrintLast
-- PRINTED BY print.sh 35421559b90ae4d0a3588c463048766b98c2df88dd9212a6774a882060cdf62d: not written by this session
namespace Go.Proofs.YtfefpbnhpncmlaaW.PrintLast
open Go.Proofs.YtfefpbnhpncmlaaW.PrintWords (Aside0)
section
variable {md : Region.Mode} {ops : Array Oper} {T : Bool × List (List Nat × List Nat)} {l l' li lj lk : Array Bool} {ds : List Nat} {i j k : Nat}
end
end Go.Proofs.YtfefpbnhpncmlaaW.PrintLast
-- PRINTED BY print.sh 35421559b90ae4d0a3588c463048766b98c2df88dd9212a6774a882060cdf62d: not written by this session
namespace Go.Proofs.YtfefpbnhpncmlaaW.PrintLast
section
variable {P : Program} {ops : Array Oper} {Q : Exit → Act → World → Prop} {md : Region.Mode} {S : World → Prop} {ds : List Nat} {T : Bool × List (List Nat × List Nat)}
end
end Go.Proofs.YtfefpbnhpncmlaaW.PrintLast
-- PRINTED BY print.sh 35421559b90ae4d0a3588c463048766b98c2df88dd9212a6774a882060cdf62d: not written by this session
namespace Go.Proofs.YtfefpbnhpncmlaaW.PrintWords
open Go.RowKit
namespace Kd
section
variable {α : Type} {d : Kd α} {e base g o n cap : Nat} {ok okp : Nat → Prop} {w W : World} {v : Value} {xs : List α}
end
section
variable {α : Type} {enc : α → Value} {h1 : ∀ x, (enc x).oneCell' = true} {e base g o n cap : Nat} {ok : Nat → Prop} {W : World} {xs : List α}
end
end Kd
end Go.Proofs.YtfefpbnhpncmlaaW.PrintWords
-- PRINTED BY print.sh 35421559b90ae4d0a3588c463048766b98c2df88dd9212a6774a882060cdf62d: not written by this session
/-! ### 40. Elements whose inner rows lie apart: what is stored into one says nothing of the others.
   S: as R, with an owner function f (block to element's index). H: as S with a hole: of element i its cells alone are told, its blocks are oki. -/
namespace Go.Proofs.YtfefpbnhpncmlaaW.PrintWords
open Go.RowKit
namespace Kd
section
variable {α β : Type} {d : Kd α} {d' : Kd β} {e e' : Nat} {w w1 W : World} {base b : Nat} {ok ok' okv oku : Nat → Prop} {u v : Value} {xs : List α} {ys : List β}
end
section
variable {α β : Type} {d : Kd α} {d' : Kd β} {e e' g : Nat} {w w1 W : World} {base b : Nat} {ok ok' okv oku : Nat → Prop} {u v : Value} {xs : List α} {ys : List β}
end
section
variable {P : Program} {ops : Array Oper} {rest : List Oper} {o : Oper} {a : Act} {Q : Exit → Act → World → Prop} {Kc : Act → World → Prop} {α : Type}
end
section
variable {α β : Type} {d : Kd α} {e e' g n cap : Nat} {w w1 W : World} {base : Nat} {ok ok' oki okp : Nat → Prop} {u v : Value} {xs : List α} {i : Int} {c : List Value}
end
section
variable {P : Program} {ops : Array Oper} {rest : List Oper} {o : Oper} {a : Act} {Q : Exit → Act → World → Prop} {α : Type}
end
end Kd
end Go.Proofs.YtfefpbnhpncmlaaW.PrintWords
-- PRINTED BY print.sh 35421559b90ae4d0a3588c463048766b98c2df88dd9212a6774a882060cdf62d: not written by this session
namespace Go.Proofs.YtfefpbnhpncmlaaW.PrintWords
open Go.RowKit
namespace Kd
section
variable {α : Type} {n : Nat} {d : Kd α} {hs : 0 < d.sz} {w : World} {base : Nat} {ok : Nat → Prop} {xs : List α} {cs : List Value}
end
section
variable {α : Type} {n : Nat} {enc : α → Value} {h1 : ∀ x, (enc x).oneCell' = true} {hs : 0 < (scalar enc h1).sz} {w : World} {base : Nat} {ok : Nat → Prop} {xs : List α} {cs : List Value}
end
end Kd
end Go.Proofs.YtfefpbnhpncmlaaW.PrintWords
-- PRINTED BY print.sh 35421559b90ae4d0a3588c463048766b98c2df88dd9212a6774a882060cdf62d: not written by this session
namespace Go.Proofs.YtfefpbnhpncmlaaW.PrintWords
open Go.RowKit
section
variable {P : Program}
end
namespace Kd
section
variable {P : Program} {ops : Array Oper} {rest : List Oper} {o : Oper} {a : Act} {Q : Exit → Act → World → Prop} {Kc : Act → World → Prop} {α : Type}
end
section
variable {α : Type} {d : Kd α} {e : Nat} {w : World} {base : Nat} {ok : Nat → Prop} {v : Value} {xs : List α}
end
section
variable {P : Program} {ops : Array Oper} {rest : List Oper} {o : Oper} {a : Act} {Q : Exit → Act → World → Prop} {Kc : Act → World → Prop} {α : Type}
end
end Kd
end Go.Proofs.YtfefpbnhpncmlaaW.PrintWords
-- PRINTED BY print.sh 35421559b90ae4d0a3588c463048766b98c2df88dd9212a6774a882060cdf62d: not written by this session
namespace Go.Proofs.YtfefpbnhpncmlaaW.PrintWords
open Go.RowKit
namespace Kd
section
variable {α : Type} {d : Kd α} {e base g n c : Nat} {ok : Nat → Prop} {w w0 W : World} {A : Option Addr} {xs : List α}
end
end Kd
end Go.Proofs.YtfefpbnhpncmlaaW.PrintWords
-- PRINTED BY print.sh 35421559b90ae4d0a3588c463048766b98c2df88dd9212a6774a882060cdf62d: not written by this session
namespace Go.Proofs.YtfefpbnhpncmlaaW.PrintWords
open Go.RowKit
section
variable {w W W2 : World} {S S2 S' : Nat → Prop}
end
namespace Kd
section
variable {α : Type} {d : Kd α} {e base n c : Nat} {ok oki S S2 : Nat → Prop} {w w0 W W1 W2 : World} {v : Value} {A : Option Addr} {xs : List α} {i : Int} {cs : List Value}
end
end Kd
end Go.Proofs.YtfefpbnhpncmlaaW.PrintWords
-- PRINTED BY print.sh 35421559b90ae4d0a3588c463048766b98c2df88dd9212a6774a882060cdf62d: not written by this session
namespace Go.Proofs.YtfefpbnhpncmlaaW.PrintWords
open Go.RowKit
namespace Foot
variable {P Q : World → Prop} {W W1 : World} {ok ok' : Nat → Prop}
end Foot
namespace Kd
section
variable {α β : Type} {d : Kd α} {e base n n' cc g N : Nat} {ok ok' okp S : Nat → Prop} {w w0 w1 W W1 : World} {A A' : Option Addr} {u v v1 : Value} {xs : List α} {xs' : List β} {d' : Kd β} {x : α} {c : List Value}
end
end Kd
end Go.Proofs.YtfefpbnhpncmlaaW.PrintWords
-- PRINTED BY print.sh 35421559b90ae4d0a3588c463048766b98c2df88dd9212a6774a882060cdf62d: not written by this session
namespace Go.Proofs.YtfefpbnhpncmlaaW.PrintWords
open Go.RowKit
namespace Kd
section
variable {α : Type} {d : Kd α} {e base n cc g : Nat} {ok ok' okp S : Nat → Prop} {w w1 W W1 : World} {A : Option Addr} {u v v1 : Value} {xs : List α} {x : α} {c : List Value}
end
end Kd
end Go.Proofs.YtfefpbnhpncmlaaW.PrintWords
-- PRINTED BY print.sh 35421559b90ae4d0a3588c463048766b98c2df88dd9212a6774a882060cdf62d: not written by this session
namespace Go.Proofs.YtfefpbnhpncmlaaW.PrintWords
open Go.RowKit
namespace Kd
section
variable {α : Type} {d : Kd α} {W : World} {g n : Nat} {S ok : Nat → Prop} {A : Option Addr} {ad : Addr} {xs : List α}
end
end Kd
end Go.Proofs.YtfefpbnhpncmlaaW.PrintWords
-- PRINTED BY print.sh 35421559b90ae4d0a3588c463048766b98c2df88dd9212a6774a882060cdf62d: not written by this session
namespace Go.Proofs.YtfefpbnhpncmlaaW.PrintWords
open Go.RowKit
section
variable {w w' u : World} {m B g : Nat} {o : Obj} {row : Option Nat} {S : Nat → Prop} {a : Addr} {v : Value}
end
namespace Kd
section
variable {α : Type} {d : Kd α} {e base n m : Nat} {ok : Nat → Prop} {w w' : World} {v : Value} {A : Option Addr} {xs : List α}
end
end Kd
end Go.Proofs.YtfefpbnhpncmlaaW.PrintWords
-- PRINTED BY print.sh 35421559b90ae4d0a3588c463048766b98c2df88dd9212a6774a882060cdf62d: not written by this session
namespace Go.Proofs.YtfefpbnhpncmlaaW.PrintWords
open Go.RowKit
section
variable {P : Program} {d : Nat} {xs ys : Array Value} {f : Field} {fs : List Field} {a b : Value} {r s : Bool} {w : World}
end
end Go.Proofs.YtfefpbnhpncmlaaW.PrintWords
-- PRINTED BY print.sh 35421559b90ae4d0a3588c463048766b98c2df88dd9212a6774a882060cdf62d: not written by this session
namespace Go.Proofs.YtfefpbnhpncmlaaW.PrintWords
end Go.Proofs.YtfefpbnhpncmlaaW.PrintWords
-- PRINTED BY print.sh 35421559b90ae4d0a3588c463048766b98c2df88dd9212a6774a882060cdf62d: not written by this session
namespace Go.Proofs.YtfefpbnhpncmlaaW.PrintLast
section
variable {P : Program} {ops : Array Oper} {Q : Exit → Act → World → Prop} {md : Region.Mode} {T : Bool × List (List Nat × List Nat)} {B : List Nat} {O : List Nat} {b : Nat → Bool} {i j n : Nat}
end
end Go.Proofs.YtfefpbnhpncmlaaW.PrintLast
-- PRINTED BY print.sh 35421559b90ae4d0a3588c463048766b98c2df88dd9212a6774a882060cdf62d: not written by this session
namespace Go.Proofs.YtfefpbnhpncmlaaW.PrintWords
open Go.RowKit
end Go.Proofs.YtfefpbnhpncmlaaW.PrintWords
namespace Go.Proofs.YtfefpbnhpncmlaaW.PrintLast
section
variable {ops : Array Oper} {a : Act} {o og : Oper} {g : Nat} {t : Tmp} {u : Bool}
end
end Go.Proofs.YtfefpbnhpncmlaaW.PrintLast
-- PRINTED BY print.sh 35421559b90ae4d0a3588c463048766b98c2df88dd9212a6774a882060cdf62d: not written by this session
namespace Go.Proofs.YtfefpbnhpncmlaaW.PrintWords
open Go.RowKit
section
variable {P : Program} {ops : Array Oper} {rest : List Oper} {o : Oper} {a : Act} {Q : Exit → Act → World → Prop} {W : World}
end
end Go.Proofs.YtfefpbnhpncmlaaW.PrintWords
-- PRINTED BY print.sh 35421559b90ae4d0a3588c463048766b98c2df88dd9212a6774a882060cdf62d: not written by this session
namespace Go.Proofs.YtfefpbnhpncmlaaW.PrintWords
open Go.RowKit
namespace Kd
section
variable {α : Type} {d : Kd α} {e base n cap g : Nat} {ok ok' okp : Nat → Prop} {w w1 W : World} {v v1 : Value} {xs ys : List α}
end
section
variable {P : Program} {ops : Array Oper} {rest : List Oper} {o : Oper} {a : Act} {Q : Exit → Act → World → Prop} {Kc : Act → World → Prop} {α : Type}
end
end Kd
end Go.Proofs.YtfefpbnhpncmlaaW.PrintWords
-- PRINTED BY print.sh 35421559b90ae4d0a3588c463048766b98c2df88dd9212a6774a882060cdf62d: not written by this session
-- PRINTED WORDS (module Derived/Print/More.lean): go-gate-2's additions: an AI agent of Go's test side, Tue Nov 17 2026; no person has read it. Lean checks it.
namespace Go.Proofs.YtfefpbnhpncmlaaW.PrintMore
open Go.RowKit Go.Proofs.YtfefpbnhpncmlaaW.PrintWords
namespace Kd
open Go.Proofs.YtfefpbnhpncmlaaW.PrintWords.Kd
end Kd

namespace Kd
open Go.Proofs.YtfefpbnhpncmlaaW.PrintWords.Kd
section
variable {α : Type} {d : Kd α} {e base g N : Nat} {ok : Nat → Prop} {W w1 : World} {u v : Value} {xs : List α}
end
end Kd
/-- 'max' and 'min' of two whole numbers. -/
theorem max2_int (k k' : IntKind) (x y : Int) : Builtin.max2 (.int k x) (.int k' y) = pure (.int k (if x < y then y else x)) := by simp only [Builtin.max2, gt_iff_lt]
theorem min2_int (k k' : IntKind) (x y : Int) : Builtin.min2 (.int k x) (.int k' y) = pure (.int k (if y < x then y else x)) := by simp only [Builtin.min2]
theorem max_two (ats : Array TypeId) (ty : TypeId) (a b : Value) : Builtin.max_ ats ty #[a, b] = (Builtin.max2 a b >>= fun s => pure s) := by simp only [Builtin.max_, List.foldlM_cons, List.foldlM_nil]
theorem min_two (ats : Array TypeId) (ty : TypeId) (a b : Value) : Builtin.min_ ats ty #[a, b] = (Builtin.min2 a b >>= fun s => pure s) := by simp only [Builtin.min_, List.foldlM_cons, List.foldlM_nil]
end Go.Proofs.YtfefpbnhpncmlaaW.PrintMore
namespace Go.Proofs.YtfefpbnhpncmlaaW.PrintWords
open Go.RowKit
section
variable {P : Program} {ops : Array Oper} {rest : List Oper} {o : Oper} {a : Act} {Q : Exit → Act → World → Prop} {W : World}
end
namespace Kd
section
variable {α : Type} {d : Kd α} {e base : Nat} {ok : Nat → Prop} {W w1 : World} {v : Value} {xs : List α}
end
section
variable {α : Type} {d : Kd α} {e base g n cap : Nat} {ok oki okp : Nat → Prop} {W : World} {xs : List α} {i : Int} {c : List Value}
end
section
variable {α : Type} {d : Kd α} {e base b b' g N : Nat} {ok ok1 : Nat → Prop} {W W2 w1 : World} {u v : Value} {xs ys : List α} {S : Nat → Prop}
end
end Kd
end Go.Proofs.YtfefpbnhpncmlaaW.PrintWords
namespace Go.Proofs.YtfefpbnhpncmlaaW.PrintWords
open Go.RowKit
namespace Kd
section
variable {α β : Type} {d : Kd α} {e base base' n m c g N' lo hi : Nat} {ok ok' S : Nat → Prop} {w W w1 : World} {A : Option Addr} {ad : Addr} {u v v1 : Value} {xs : List α}
end
end Kd
end Go.Proofs.YtfefpbnhpncmlaaW.PrintWords
namespace Go.Proofs.Ytfefpbnhpncmlaa.B8
open Go.RowKit Go.Proofs.Ytfefpbnhpncmlaa.PBaseSigns Go.Proofs.YtfefpbnhpncmlaaW.PrintWords Go.Proofs.YtfefpbnhpncmlaaW.PrintLast Go.Proofs.YtfefpbnhpncmlaaW.PrintMore
set_option linter.unusedVariables false

theorem info5 : (Try.prog.info? 5).map (fun i => (i.zero, i.size, i.bytes)) = some (some (.int .u8 0), 1, 1) := by kernel_rfl
/-- A row of bytes that the call itself made. -/
abbrev R8 (w : World) (base : Nat) (v : Value) (xs : List Int) : Prop := Kd.R (Kd.int .u8) 5 w base (fun _ => True) v xs
/-- A row of bytes that is read. -/
abbrev C8 (w : World) (A : Option Addr) (n : Nat) (xs : List Int) : Prop := Kd.C (Kd.int .u8) w A n xs

section
variable {ops : Array Oper} {o : Oper} {rest : List Oper} {a : Act} {Q : Exit → Act → World → Prop}
/-- append(out, x) -/
theorem app1 {w0 W : World} (base : Nat) (hgd : o.guard = none) (s x : Operand)
    (ho : o.op = .call { callee := .builtin .append, args := #[s, x], argTypes := #[31, 31] })
    (v : Value) (xs : List Int) (p : Int) (hs : a.eval s = v) (hx : a.eval x = .slice (some ⟨W.heap.size, 0, none⟩) 1 1)
    (HO : R8 W base v xs) (HB : Below base w0 W) (hbase : base ≤ W.heap.size) (hl : xs.length < 140737488355328)
    (h : ∀ v1 w1, R8 w1 base v1 (xs ++ [p]) → Below base w0 w1 → wpList Try.prog ops Q rest (a.put o.dst v1) w1) :
    wpList Try.prog ops Q (o :: rest) a (W.alloc (.cells #[.int .u8 p] 5)) :=
  Kd.R_append (Kd.int .u8) (w0 := w0) base hgd s x 31 5 (.int .u8 0) 1 ho Try.underlying31 info5 rfl (by decide) (by omega) v xs p [.int .u8 p] (fun _ => True) (fun _ => False) hs hx rfl (fun _ hk => hk.elim) (fun _ _ => trivial) HO HB hbase (by omega)
    (fun v1 w1 h1 h2 _ _ => h v1 w1 h1 h2)
/-- append(out, ys...), the ys in no row of out's own -/
theorem appRow {w0 W : World} (base : Nat) (hgd : o.guard = none) (s x : Operand)
    (ho : o.op = .call { callee := .builtin .append, args := #[s, x], argTypes := #[31, 31] })
    (v : Value) (xs ys : List Int) (A : Option Addr) (m c : Nat) (hs : a.eval s = v) (hx : a.eval x = .slice A m c)
    (HO : R8 W base v xs) (HR : C8 W A m ys) (HB : Below base w0 W) (hbase : base ≤ W.heap.size) (hl : xs.length + m ≤ 140737488355328)
    (h : ∀ v1 w1, R8 w1 base v1 (xs ++ ys) → Below base w0 w1 → W.grownBy w1 v.ownBlock → wpList Try.prog ops Q rest (a.put o.dst v1) w1) :
    wpList Try.prog ops Q (o :: rest) a W :=
  Kd.R_append_rows (Kd.int .u8) (w0 := w0) base hgd s x 31 5 (.int .u8 0) 1 ho Try.underlying31 info5 rfl (by decide) (by omega) v xs ys A m c (fun _ => True) (fun _ => False) hs hx HO HR (fun _ _ h => h) (fun _ h => h.elim) (fun _ _ => trivial) HB hbase (by omega)
    (fun v1 w1 h1 h2 h3 _ => h v1 w1 h1 h2 h3)
end

/-- Where a row that is read lies. -/
theorem C_at {α : Type} {enc : α → Value} {h1 : ∀ x, (enc x).oneCell' = true} {w : World} {A : Option Addr} {n : Nat} {xs : List α} (d : α) (h : Kd.C (Kd.scalar enc h1) w A n xs) (h0 : 0 < n) :
    ∃ b off, A = some ⟨b, off, none⟩ ∧ b < w.heap.size ∧ ∀ i, i < n → w.cell? ⟨b, off + i, none⟩ = some (enc (xs.getD i d)) := by
  obtain ⟨ad, e, hx⟩ := h.2.2 h0
  have hl := h.1
  have each : ∀ i, i < n → w.cell? (ad.add i) = some (enc (xs.getD i d)) := by
    intro i hi
    obtain ⟨c, hc, hk, hj⟩ := hx i (xs.getD i d) (by simp [List.getD, hl, hi])
    have hk' : c = [enc (xs.getD i d)] := hk
    subst hk'
    have := hj 0 _ rfl
    simpa [show (Kd.scalar enc h1).sz = 1 from rfl] using this
  have g0 := each 0 h0
  rw [show ad.add 0 = ad from rfl] at g0
  have hs : ad.spot = none := World.cell?_spot g0
  obtain ⟨b, off, s⟩ := ad
  simp only at hs
  subst hs
  refine ⟨b, off, e, World.block_lt_of_cell? w _ g0, fun i hi => ?_⟩
  have := each i hi
  rwa [show (⟨b, off, none⟩ : Addr).add i = ⟨b, off + i, none⟩ from add_at b off i] at this

theorem C_take {α : Type} {d : Kd α} {w : World} {A : Option Addr} {n m : Nat} {xs : List α} (h : Kd.C d w A n xs) (hm : m ≤ n) : Kd.C d w A m (xs.take m) := by
  obtain ⟨h1, h2, h3⟩ := h
  refine ⟨by simp; omega, by omega, fun h0 => ?_⟩
  obtain ⟨ad, e, h4⟩ := h3 (by omega)
  refine ⟨ad, e, fun j p hj => h4 j p ?_⟩
  rw [List.getElem?_take] at hj
  split at hj
  · exact hj
  · cases hj

theorem C_drop {α : Type} {d : Kd α} {w : World} {A : Option Addr} {n j c : Nat} {xs : List α} (h : Kd.C d w A n xs) (hc : n ≤ c) (hj : j ≤ n) :
    Kd.C d w (if c = j then A else A.map (·.add (j * d.sz))) (n - j) (xs.drop j) := by
  obtain ⟨h1, h2, h3⟩ := h
  refine ⟨by simp; omega, by omega, fun h0 => ?_⟩
  obtain ⟨ad, rfl, h4⟩ := h3 (by omega)
  rw [if_neg (by omega)]
  refine ⟨_, rfl, fun i p hi => ?_⟩
  rw [List.getElem?_drop] at hi
  obtain ⟨cs, g1, g2, g3⟩ := h4 _ _ hi
  refine ⟨cs, g1, g2, fun k u hk => ?_⟩
  rw [Go.Deep.add_add, ← Nat.add_assoc, ← Nat.add_mul]
  exact g3 k u hk
/-- of bytes, as the walk's slice has it -/
theorem C8_drop {w : World} {A : Option Addr} {n j c : Nat} {xs : List Int} (h : C8 w A n xs) (hc : n ≤ c) (hj : j ≤ n) : C8 w (if c = j then A else A.map (·.add j)) (n - j) (xs.drop j) := by
  have := C_drop (d := Kd.int .u8) h hc hj
  rwa [show (Kd.int .u8).sz = 1 from rfl, Nat.mul_one] at this
/-- b[:j] of a row of bytes -/
theorem cut8_to (A : Option Addr) (n c j : Nat) (hm : j ≤ n) (hc : n ≤ c) (W : World) : (Instr.slice 31 (.slice A n c) none (some (.int .i64 (j : Int))) none).run Try.prog W = .ok (.slice A j c) W := by
  obtain ⟨i0, hi, _, _, _⟩ := info_parts info5
  have := cut_to (P := Try.prog) 31 5 .i64 Try.underlying31 hi A n c (j : Int) (by omega) (by omega) hc W
  simpa using this
/-- b[j:] of a row of bytes -/
theorem cut8_from (A : Option Addr) (n c j : Nat) (hm : j ≤ n) (W : World) : (Instr.slice 31 (.slice A n c) (some (.int .i64 (j : Int))) none none).run Try.prog W = .ok (.slice (if c = j then A else A.map (·.add j)) (n - j) (c - j)) W := by
  obtain ⟨i0, hi, _, hs, _⟩ := info_parts info5
  have := cut_from (P := Try.prog) 31 5 .i64 Try.underlying31 hi 1 hs A n c (j : Int) (by omega) (by omega) W
  simpa using this

/-- A new block of bytes, a row of the call's own. -/
theorem R8_new (w : World) (base : Nat) (hb : base ≤ w.heap.size) (c : List Int) (hc : c.length ≤ 9223372036854775807) : R8 (w.alloc (.cells (c.map (Value.int .u8)).toArray 5)) base (.slice (some ⟨w.heap.size, 0, none⟩) c.length c.length) c := by
  refine Kd.R_of_own ?_ (fun _ _ => trivial)
  have h2 := World.ownsRow_lit (base := base) (e := 5) (size := 1) w (c.map (Value.int .u8)).toArray c.length hb (by simpa [maxLen] using hc) (by simp)
  simpa [encs] using h2
end Go.Proofs.Ytfefpbnhpncmlaa.B8
namespace Go.Proofs.Ytfefpbnhpncmlaa.CodL

/-- All are bytes. -/
def Byt (l : List Int) : Prop := ∀ x ∈ l, 0 ≤ x ∧ x < 256
theorem Byt.take {l : List Int} (h : Byt l) (n : Nat) : Byt (l.take n) := fun x hx => h x (List.mem_of_mem_take hx)
theorem Byt.drop {l : List Int} (h : Byt l) (n : Nat) : Byt (l.drop n) := fun x hx => h x (List.mem_of_mem_drop hx)
theorem Byt.append {l r : List Int} (h : Byt l) (h2 : Byt r) : Byt (l ++ r) := fun x hx => (List.mem_append.1 hx).elim (h x) (h2 x)
theorem Byt.getD {l : List Int} (h : Byt l) (i : Nat) : 0 ≤ l.getD i 0 ∧ l.getD i 0 < 256 := by
  by_cases hi : i < l.length
  · have : l.getD i 0 = l[i] := by simp [hi]
    rw [this]
    exact h _ (List.getElem_mem hi)
  · have : l.getD i 0 = 0 := by simp [Nat.not_lt.1 hi]
    rw [this]
    omega

/-- So many bytes of a number, the lowest first. -/
def fixedL (size : Nat) (n : Int) : List Int := (List.range size).map fun i => n / 256 ^ i % 256
theorem fixedL_succ (k : Nat) (n : Int) : fixedL (k + 1) n = fixedL k n ++ [n / 256 ^ k % 256] := by simp [fixedL, List.range_succ]
theorem fixedL_len (k : Nat) (n : Int) : (fixedL k n).length = k := by simp [fixedL]
theorem fixedL_byt (k : Nat) (n : Int) : Byt (fixedL k n) := by
  intro x hx
  obtain ⟨i, _, rfl⟩ := List.mem_map.1 hx
  omega
theorem fixedL_cons (k : Nat) (n : Int) : fixedL (k + 1) n = n % 256 :: fixedL k (n / 256) := by
  induction k with
  | zero => simp [fixedL, List.range_succ]
  | succ k ih =>
    rw [fixedL_succ, ih, fixedL_succ]
    simp only [List.cons_append]
    congr 3
    rw [Int.pow_succ, Int.mul_comm, Int.ediv_ediv_of_nonneg (by decide)]

/-- What bytes tell, the lowest first. -/
def leL : List Int → Int
  | [] => 0
  | b :: r => b + 256 * leL r
theorem leL_snoc (l : List Int) (b : Int) : leL (l ++ [b]) = leL l + 256 ^ l.length * b := by
  induction l with
  | nil => simp [leL]
  | cons a l ih =>
    simp only [List.cons_append, leL, ih, List.length_cons, Int.pow_succ]
    rw [Int.mul_add, ← Int.add_assoc, Int.mul_comm (256 ^ l.length) 256, Int.mul_assoc]
theorem leL_bound {l : List Int} (h : Byt l) : 0 ≤ leL l ∧ leL l < 256 ^ l.length := by
  induction l with
  | nil => simp [leL]
  | cons a l ih =>
    have h1 := h a (by simp)
    have h2 := ih (fun x hx => h x (by simp [hx]))
    simp only [leL, List.length_cons, Int.pow_succ]
    omega
theorem leL_fixedL (k : Nat) (n : Int) : leL (fixedL k n) = n % 256 ^ k := by
  induction k generalizing n with
  | zero => simp [fixedL, leL, Int.emod_one]
  | succ k ih =>
    rw [fixedL_cons, leL, ih, Int.pow_succ, Int.mul_comm (256 ^ k) 256]
    have hq : (0 : Int) < 256 ^ k := Int.pow_pos (by decide)
    generalize (256 : Int) ^ k = q at *
    have h1 := Int.mul_ediv_add_emod (n / 256) q
    have h2 := Int.mul_ediv_add_emod n 256
    have h3 := Int.emod_nonneg (n / 256) (show q ≠ 0 by omega)
    have h4 := Int.emod_lt_of_pos (n / 256) hq
    have e : n = (n % 256 + 256 * (n / 256 % q)) + 256 * q * (n / 256 / q) := by
      rw [Int.mul_assoc]
      omega
    have h5 : 0 ≤ n % 256 + 256 * (n / 256 % q) := by omega
    have h6 : n % 256 + 256 * (n / 256 % q) < 256 * q := by omega
    generalize hr : n % 256 + 256 * (n / 256 % q) = r at *
    rw [e, Int.add_mul_emod_self_left, Int.emod_eq_of_lt h5 h6]
/-- A number in as few bytes as it needs. -/
def shortL (n : Nat) : List Int := if n < 128 then [(n : Int)] else ((n % 128 + 128 : Nat) : Int) :: shortL (n / 128)
termination_by n
theorem shortL_small {n : Nat} (h : n < 128) : shortL n = [(n : Int)] := by rw [shortL, if_pos h]
theorem shortL_more {n : Nat} (h : ¬ n < 128) : shortL n = ((n % 128 + 128 : Nat) : Int) :: shortL (n / 128) := by rw [shortL, if_neg h]
def glen (n : Nat) : Nat := (shortL n).length
theorem glen_small {n : Nat} (h : n < 128) : glen n = 1 := by rw [glen, shortL_small h]; rfl
theorem glen_more {n : Nat} (h : ¬ n < 128) : glen n = glen (n / 128) + 1 := by rw [glen, shortL_more h]; rfl
theorem glen_pos (n : Nat) : 0 < glen n := by
  by_cases h : n < 128
  · rw [glen_small h]; omega
  · rw [glen_more h]; omega
theorem shortL_byt (n : Nat) : Byt (shortL n) := by
  induction n using shortL.induct with
  | case1 n h => rw [shortL_small h]; intro x hx; simp at hx; omega
  | case2 n h ih =>
    rw [shortL_more h]
    intro x hx
    rcases List.mem_cons.1 hx with rfl | hx
    · omega
    · exact ih x hx
theorem glen_one {n : Nat} (h : glen n = 1) : n < 128 := by
  by_cases h1 : n < 128
  · exact h1
  · rw [glen_more h1] at h
    have := glen_pos (n / 128)
    omega
theorem glen_le {n : Nat} {k : Nat} (hk : 0 < k) (h : n < 128 ^ k) : glen n ≤ k := by
  induction k generalizing n with
  | zero => omega
  | succ k ih =>
    by_cases h1 : n < 128
    · rw [glen_small h1]; omega
    · rw [glen_more h1]
      have h2 : n / 128 < 128 ^ k := by
        rw [Nat.pow_succ] at h
        exact Nat.div_lt_of_lt_mul (by rw [Nat.mul_comm]; exact h)
      by_cases hk0 : k = 0
      · subst hk0
        simp at h2
        omega
      · have := ih (by omega) h2
        omega
theorem glen_ten {n : Nat} (h : n < 18446744073709551616) : glen n ≤ 10 := glen_le (by decide) (by omega)

/-- How many bits a number has. -/
def blen (n : Nat) : Nat := if n = 0 then 0 else Nat.log2 n + 1
theorem log2_128 {n : Nat} (h : ¬ n < 128) : Nat.log2 n = Nat.log2 (n / 128) + 7 := by
  have hn : n ≠ 0 := by omega
  have hm : n / 128 ≠ 0 := by omega
  have h1 : 2 ^ Nat.log2 (n / 128) ≤ n / 128 := (Nat.le_log2 hm).1 (Nat.le_refl _)
  have h2 : n / 128 < 2 ^ (Nat.log2 (n / 128) + 1) := (Nat.log2_lt hm).1 (Nat.lt_succ_self _)
  apply Nat.le_antisymm
  · have : n < 2 ^ (Nat.log2 (n / 128) + 7 + 1) := by
      rw [show Nat.log2 (n / 128) + 7 + 1 = (Nat.log2 (n / 128) + 1) + 7 by omega, Nat.pow_add]
      omega
    have := (Nat.log2_lt hn).2 this
    omega
  · refine (Nat.le_log2 hn).2 ?_
    rw [Nat.pow_add]
    omega
theorem log2_small {n : Nat} (h : n < 128) : Nat.log2 n ≤ 6 := by
  by_cases hn : n = 0
  · subst hn; decide
  · have := (Nat.log2_lt (k := 7) hn).2 (by omega)
    omega
theorem glen_blen (n : Nat) : glen n = max 1 ((blen n + 6) / 7) := by
  induction n using shortL.induct with
  | case1 n h =>
    rw [glen_small h]
    have := log2_small h
    unfold blen
    split <;> omega
  | case2 n h ih =>
    rw [glen_more h, ih]
    have := log2_128 h
    unfold blen
    rw [if_neg (by omega), if_neg (by omega)]
    omega

/-- How many bytes from the first on go on. -/
def lead : List Int → Nat
  | [] => 0
  | b :: r => if 128 ≤ b then lead r + 1 else 0
theorem lead_le (l : List Int) : lead l ≤ l.length := by
  induction l with
  | nil => simp [lead]
  | cons b r ih => simp only [lead, List.length_cons]; split <;> omega
theorem lead_lt {l : List Int} {i : Nat} (h : i < lead l) : 128 ≤ l.getD i 0 := by
  induction l generalizing i with
  | nil => simp [lead] at h
  | cons b r ih =>
    simp only [lead] at h
    split at h
    · cases i with
      | zero => simpa using ‹128 ≤ b›
      | succ i => simpa using ih (by omega)
    · omega
theorem lead_at {l : List Int} (h : lead l < l.length) : l.getD (lead l) 0 < 128 := by
  induction l with
  | nil => simp [lead] at h
  | cons b r ih =>
    simp only [lead, List.length_cons] at h ⊢
    split at h
    · rename_i hb
      rw [if_pos hb]
      simpa using ih (by omega)
    · rename_i hb
      rw [if_neg hb]
      simp
      omega
theorem lead_ge {l : List Int} {i : Nat} (hi : i ≤ l.length) (h : ∀ j, j < i → 128 ≤ l.getD j 0) : i ≤ lead l := by
  rcases Nat.lt_or_ge (lead l) i with h1 | h1
  · have h2 := lead_at (l := l) (by omega)
    have := h _ h1
    omega
  · exact h1
/-- What groups of seven bits tell, the lowest first. -/
def sevenL : List Int → Int
  | [] => 0
  | b :: r => b % 128 + 128 * sevenL r
theorem sevenL_snoc (l : List Int) (b : Int) : sevenL (l ++ [b]) = sevenL l + 128 ^ l.length * (b % 128) := by
  induction l with
  | nil => simp [sevenL]
  | cons a l ih =>
    simp only [List.cons_append, sevenL, ih, List.length_cons, Int.pow_succ]
    rw [Int.mul_add, ← Int.add_assoc, Int.mul_comm (128 ^ l.length) 128, Int.mul_assoc]
theorem sevenL_bound (l : List Int) : 0 ≤ sevenL l ∧ sevenL l < 128 ^ l.length := by
  induction l with
  | nil => simp [sevenL]
  | cons a l ih =>
    simp only [sevenL, List.length_cons, Int.pow_succ]
    omega

/-- Reading a short number: the number, how many bytes it has, and the error's number. -/
def readShort (b : List Int) : Int × Nat × Int :=
  if 10 ≤ lead b then (0, 0, 11)
  else if lead b = b.length then (0, 0, 10)
  else if (lead b = 9 ∧ 1 < b.getD 9 0) ∨ (0 < lead b ∧ b.getD (lead b) 0 = 0) then (0, 0, 11)
  else (sevenL (b.take (lead b + 1)), lead b + 1, 0)

theorem lead_shortL (n : Nat) (r : List Int) : lead (shortL n ++ r) = glen n - 1 := by
  induction n using shortL.induct with
  | case1 n h => rw [shortL_small h, glen_small h]; simp only [List.cons_append, lead]; rw [if_neg (by omega)]
  | case2 n h ih =>
    rw [shortL_more h, glen_more h]
    simp only [List.cons_append, lead]
    rw [if_pos (by omega), ih]
    have := glen_pos (n / 128)
    omega
theorem sevenL_shortL (n : Nat) : sevenL (shortL n) = n := by
  induction n using shortL.induct with
  | case1 n h => rw [shortL_small h]; simp only [sevenL]; omega
  | case2 n h ih =>
    rw [shortL_more h]
    simp only [sevenL, ih]
    omega
theorem shortL_last (n : Nat) : (0 < n → (shortL n).getD (glen n - 1) 0 ≠ 0) ∧ (glen n = 10 → n < 18446744073709551616 → (shortL n).getD 9 0 ≤ 1) := by
  have key : ∀ k n, glen n = k + 1 → (shortL n).getD k 0 = ((n / 128 ^ k : Nat) : Int) := by
    intro k
    induction k with
    | zero => intro n h; rw [shortL_small (glen_one h)]; simp
    | succ k ih =>
      intro n h
      have h1 : ¬ n < 128 := fun h1 => by rw [glen_small h1] at h; omega
      rw [glen_more h1] at h
      rw [shortL_more h1]
      have := ih (n / 128) (by omega)
      simp only [List.getD_cons_succ]
      rw [this, Nat.div_div_eq_div_mul, Nat.pow_succ, Nat.mul_comm]
  have low : ∀ k n, glen n = k + 1 → 0 < k → 128 ^ k ≤ n := by
    intro k
    induction k with
    | zero => intro n _ h; omega
    | succ k ih =>
      intro n h _
      have h1 : ¬ n < 128 := fun h1 => by rw [glen_small h1] at h; omega
      rw [glen_more h1] at h
      by_cases hk : k = 0
      · subst hk; simp; omega
      · have := ih (n / 128) (by omega) (by omega)
        rw [Nat.pow_succ]
        omega
  constructor
  · intro hn
    have hg := glen_pos n
    rw [key (glen n - 1) n (by omega)]
    by_cases h : glen n - 1 = 0
    · rw [h]; simp; omega
    · have h3 := low (glen n - 1) n (by omega) (by omega)
      have : 0 < n / 128 ^ (glen n - 1) := Nat.div_pos h3 (Nat.pos_of_ne_zero (by simp))
      omega
  · intro hg hn
    rw [key 9 n hg]
    have : n / 128 ^ 9 < 2 := by
      rw [Nat.div_lt_iff_lt_mul (by decide)]
      omega
    omega
theorem readShort_shortL (n : Nat) (hn : n < 18446744073709551616) (r : List Int) : readShort (shortL n ++ r) = ((n : Int), glen n, 0) := by
  have hg := glen_pos n
  have h10 := glen_ten hn
  have hl : (shortL n).length = glen n := rfl
  have hlast := shortL_last n
  have hd : ∀ i, i < glen n → (shortL n ++ r).getD i 0 = (shortL n).getD i 0 := by
    intro i hi
    simp [List.getElem?_append_left, hl, hi]
  unfold readShort
  rw [lead_shortL, if_neg (by omega), if_neg (by simp only [List.length_append, hl]; omega), if_neg ?_]
  · rw [show glen n - 1 + 1 = glen n by omega]
    rw [List.take_append_of_le_length (by omega), List.take_of_length_le (by omega), sevenL_shortL]
  · rintro (⟨h1, h2⟩ | ⟨h1, h2⟩)
    · rw [hd 9 (by omega)] at h2
      have := hlast.2 (by omega) hn
      omega
    · rw [hd _ (by omega)] at h2
      refine hlast.1 ?_ h2
      rcases Nat.eq_zero_or_pos n with rfl | h
      · rw [glen_small (by omega)] at h1; omega
      · exact h
theorem readShort_used (b : List Int) : (readShort b).2.1 ≤ b.length := by
  have := lead_le b
  unfold readShort
  split
  · simp
  split
  · simp
  split
  · simp
  · simp only
    omega
theorem readShort_bound {b : List Int} (hb : Byt b) : 0 ≤ (readShort b).1 ∧ (readShort b).1 < 18446744073709551616 := by
  unfold readShort
  split
  · simp
  split
  · simp
  split
  · simp
  · rename_i h1 h2 h3
    simp only
    have hle := lead_le b
    have hs := sevenL_bound (b.take (lead b + 1))
    have hl : (b.take (lead b + 1)).length = lead b + 1 := by rw [List.length_take]; omega
    rw [hl] at hs
    refine ⟨hs.1, ?_⟩
    by_cases h9 : lead b = 9
    · have e : b.take (9 + 1) = b.take 9 ++ [b.getD 9 0] := by
        rw [List.take_add_one]
        simp [show 9 < b.length by omega]
      have h4 := sevenL_bound (b.take 9)
      have hl9 : (b.take 9).length = 9 := by rw [List.length_take]; omega
      rw [hl9] at h4
      rw [h9, e, sevenL_snoc, hl9]
      have h5 : ¬ (1 < b.getD 9 0) := fun h => h3 (.inl ⟨h9, h⟩)
      have h6 := hb.getD 9
      rw [Int.emod_eq_of_lt h6.1 (by omega)]
      have : (128 : Int) ^ 9 * b.getD 9 0 ≤ 128 ^ 9 := by
        have : b.getD 9 0 = 0 ∨ b.getD 9 0 = 1 := by omega
        rcases this with h | h <;> rw [h] <;> decide
      have : (128 : Int) ^ 9 = 9223372036854775808 := by decide
      omega
    · have : (128 : Int) ^ (lead b + 1) ≤ 128 ^ 9 := by
        have h8 : lead b + 1 ≤ 9 := by omega
        exact_mod_cast Nat.pow_le_pow_right (n := 128) (by decide) h8
      have : (128 : Int) ^ 9 = 9223372036854775808 := by decide
      omega
end Go.Proofs.Ytfefpbnhpncmlaa.CodL
/-
  DERIVED: THE SHELF's CONTRACTS AT THIS DUMP, IN PLAIN WORDS (tools/lay-plain.mjs out of 'TryShelf.lean', which tools/lay-shelf.mjs wrote): THE SAME DECLARATIONS UNDER THE SAME NAMES: 'import', 'namespace', 'open', 'def', 'theorem' AND NOTHING ELSE: no command of the shelf's: FOR A HAND-IN. Each laying: the table of numbers ('.._ren') and one theorem, a field a fact of the dump's own or the kernel's comparison; each contract: ONE APPLICATION.
-/
namespace Go.Proofs
open Go.Shelf
def Try.lays129_ren : Go.Shelf.Ren := ⟨fun | 129 => 125 | n => n, fun | 53 => 103 | 3 => 3 | 4 => 4 | 46 => 93 | 5 => 5 | 9 => 9 | n => n, fun | n => n⟩
theorem Try.lays129 : Go.Proofs.Lays.n129 Try.prog Try.lays129_ren := {
  mixed := by kernel_rfl
  f129 := Try.func125.trans (congrArg some (by kernel_rfl))
  t3 := Try.underlying3
  a3 := Try.isAgg3
  z3 := Try.sizeOf3
  v3 := Try.zeroValue3
  t4 := Try.underlying4
  a4 := Try.isAgg4
  z4 := Try.sizeOf4
  v4 := Try.zeroValue4
  t5 := Try.underlying5
  a5 := Try.isAgg5
  z5 := Try.sizeOf5
  v5 := Try.zeroValue5
  t9 := Try.underlying9
  a9 := Try.isAgg9
  z9 := Try.sizeOf9
  v9 := Try.zeroValue9
  t46 := Try.underlying93
  a46 := Try.isAgg93
  z46 := Try.sizeOf93
  v46 := Try.zeroValue93
  t53 := Try.underlying103
  a53 := Try.isAgg103
  z53 := Try.sizeOf103
  v53 := Try.zeroValue103 }
/-- bits.Len64: "Len64 returns the minimum number of bits required to represent x; the result is 0 for x == 0.": IT RETURNS 'Lib.bitLen x'; the world is as it was. ('h0', 'h1': x is a uint64.) (LAID: no walk: one application.) -/
theorem Try.bits_Len64 (x : Int) (w : World) (h0 : 0 ≤ x) (h1 : x ≤ 18446744073709551615) :
    Calls Try.prog 125 #[.int .u64 x] w fun e w' => e = .returned (.int .i64 (Lib.bitLen x.toNat)) ∧ w' = w := Any.bits_Len64 Try.lays129 x w h0 h1
end Go.Proofs
namespace Go.Proofs.Ytfefpbnhpncmlaa.CodA
open Go.RowKit Go.Proofs.Ytfefpbnhpncmlaa.B8 Go.Proofs.Ytfefpbnhpncmlaa.CodL Go.Proofs.Ytfefpbnhpncmlaa.PBaseSigns Go.Proofs.YtfefpbnhpncmlaaW.PrintWords Go.Proofs.YtfefpbnhpncmlaaW.PrintLast Go.Proofs.YtfefpbnhpncmlaaW.PrintMore
attribute [local go_sem] max2_int min2_int max_two min_two
set_option linter.unusedVariables false
set_option linter.unusedSimpArgs false

theorem blen_half {n : Nat} (h : n ≠ 0) : blen n = 1 + blen (n / 2) := by
  unfold blen
  rw [if_neg h]
  by_cases h1 : n / 2 = 0
  · rw [if_pos h1]
    have : n = 1 := by omega
    subst this
    decide
  · rw [if_neg h1]
    have h2 : 2 ≤ n := by omega
    rw [show Nat.log2 n = Nat.log2 (n / 2) + 1 by rw [Nat.log2_def n, if_pos h2]]
    omega
theorem bitLen_blen (f n : Nat) (h : n < 2 ^ f) : Lib.bitLenAux f n = blen n := by
  induction f generalizing n with
  | zero =>
    have : n = 0 := by simpa using h
    subst this
    rfl
  | succ f ih =>
    unfold Lib.bitLenAux
    by_cases h0 : n = 0
    · subst h0; rfl
    · rw [if_neg h0, ih (n / 2) (by rw [Nat.pow_succ] at h; omega), blen_half h0]
theorem bitLen_eq (n : Nat) (h : n < 18446744073709551616) : Lib.bitLen n = blen n := bitLen_blen 64 n (by omega)
theorem blen_le (n : Nat) (h : n < 18446744073709551616) : blen n ≤ 64 := by
  unfold blen
  split
  · omega
  · rename_i h0
    have := (Nat.log2_lt (k := 64) h0).2 (by omega)
    omega

theorem ret_int {k : IntKind} {a b : Int} (h : a = b) : Ending.returned (.int k a) = .returned (.int k b) := by rw [h]
theorem len_calls (n : Nat) (h : n < 18446744073709551616) (w : World) : Calls Try.prog 125 #[.int .u64 (n : Int)] w fun e w' => e = .returned (.int .i64 (blen n : Int)) ∧ w = w' := by
  refine (Try.bits_Len64 (n : Int) w (by omega) (by omega)).mono ?_
  rintro e w' ⟨rfl, rfl⟩
  refine ⟨?_, rfl⟩
  rw [Int.toNat_natCast, bitLen_eq n h]

theorem groups_calls (n : Nat) (h : n < 18446744073709551616) (w : World) : Calls Try.prog 117 #[.int .u64 (n : Int)] w fun e w' => e = .returned (.int .i64 (glen n : Int)) ∧ w = w' := by
  have hb := blen_le n h
  have hg := Aside0.mk (glen_blen n)
  have hl := Aside0.mk (len_calls n h)
  clear h
  go_enter Try.func117, Try.ntmps117
  go_wp2_with fail
  refine (hl.out _).mono ?_
  rintro e w' ⟨rfl, rfl⟩
  generalize blen n = b at *
  go_wp2
  all_goals
    go_ret
    refine ⟨?_, rfl⟩
    rw [hg.out]
    exact ret_int (by omega)

/-- A row of bytes is told that the call itself made. -/
def Tells (w : World) (l : List Int) (e : Ending) (w' : World) : Prop := ∃ v, e = .returned v ∧ R8 w' w.heap.size v l ∧ Below w.heap.size w w'

theorem wraps_u8 (n : Int) (h₀ : 0 ≤ n) (h₁ : n < 2 ^ 8) : IntKind.u8.wrap n = n := by rw [IntKind.wrap_u8]; omega
theorem or_fin : ∀ a : Fin 256, (a.val ||| 128) = a.val % 128 + 128 := by decide +kernel
theorem or128 (m : Nat) : bits .or .u8 ((m : Int) % 256) 128 = (m : Int) % 128 + 128 := by
  have h := (bits_nat .u8 8 (by decide) wraps_u8 (m % 256) 128 (by omega) (by decide)).2
  have h2 := or_fin ⟨m % 256, by omega⟩
  simp only at h2
  rw [show ((m : Int) % 256) = ((m % 256 : Nat) : Int) by omega, show (128 : Int) = ((128 : Nat) : Int) from rfl, h, h2]
  omega

set_option maxRecDepth 100000 in
set_option maxHeartbeats 1000000 in
theorem short_calls (A : Option Addr) (c : Nat) (l : List Int) (n : Nat) (w : World) (hr : C8 w A l.length l) (hm : l.length ≤ 1000000) (hn : n < 18446744073709551616) :
    Calls Try.prog 89 #[.slice A l.length c, .int .u64 (n : Int)] w (Tells w (l ++ shortL n)) := by
  have HR := Aside0.mk (Kd.C_below hr (below_alloc (Below.refl w.heap.size w) (.cells #[] 5)))
  have HO := Aside0.mk (R8_new w w.heap.size (Nat.le_refl _) [] (by simp))
  have HB := Aside0.mk (below_alloc (Below.refl w.heap.size w) (.cells #[] 5))
  have hs : w.heap.size ≤ (w.alloc (.cells #[] 5)).heap.size := by simp
  have hg := Aside0.mk (groups_calls n hn)
  clear hr
  go_enter Try.func89, Try.ntmps89
  go_wp2_with (at_builtin; refine appRow (w0 := w) w.heap.size rfl (.tmp 7) (.tmp 8) rfl _ [] l A l.length c rfl rfl HO.out HR.out HB.out hs (by simp; omega) ?_; intro v1 w1 ho hb hgr; have HO1 := Aside0.mk ho; have HB1 := Aside0.mk hb; clear ho hb hgr)
  refine (hg.out _).mono ?_
  rintro e w2 ⟨rfl, rfl⟩
  clear HO HR HB hs hg
  have hp1 := glen_pos n
  have hp2 := glen_ten hn
  go_wp2
  go_loopw [1, 5, 6] (fun v1 v5 v6 wr => ∃ (m : Nat) (out : List Int), v1 = .int .u64 (m : Int) ∧ v6 = .int .i64 ((glen m : Int) - 1) ∧ m ≤ n ∧ Aside0 (out ++ shortL m = l ++ shortL n) ∧ Aside0 (R8 wr w.heap.size v5 out) ∧ Aside0 (Below w.heap.size w wr)) (fun _ _ v _ => (intOf v).toNat)
  case atStart => exact ⟨n, l, rfl, rfl, Nat.le_refl _, ⟨rfl⟩, HO1, HB1⟩
  case round =>
    obtain ⟨m, out, rfl, rfl, hmn, he, HO, HB⟩ := hrel
    have hlen : out.length ≤ 1000010 := by
      have h1 := congrArg List.length he.out
      simp only [List.length_append] at h1
      have h2 : (shortL n).length = glen n := rfl
      omega
    have hq1 := glen_pos m
    have hq2 := glen_ten (n := m) (by omega)
    clear HO1 HB1
    have hs := HB.out.size
    by_cases hlt : m < 128
    · have hg1 := glen_small hlt
      have HS := Aside0.mk (shortL_small hlt)
      rw [hg1]
      go_wp2_with (at_builtin; refine app1 (w0 := w) w.heap.size rfl (.tmp 25) (.tmp 28) rfl _ out _ rfl rfl HO.out HB.out hs (by omega) ?_; intro v2 w2 ho hb; have HO2 := Aside0.mk ho; have HB2 := Aside0.mk hb; clear ho hb)
      go_ret
      refine ⟨_, rfl, ?_, HB2.out⟩
      have h3 := he.out
      rw [HS.out] at h3
      rw [← h3]
      exact HO2.out
    · have hgm := glen_more hlt
      have hg3 := glen_pos (m / 128)
      have HS := Aside0.mk (shortL_more hlt)
      have hgt : (0 : Int) < (glen m : Int) - 1 := by omega
      go_wp2_with (at_builtin; refine app1 (w0 := w) w.heap.size rfl (.tmp 17) (.tmp 21) rfl _ out _ rfl rfl HO.out HB.out hs (by omega) ?_; intro v2 w2 ho hb; have HO2 := Aside0.mk ho; have HB2 := Aside0.mk hb; clear ho hb)
      go_roundw
      case rel => exact ⟨m / 128, _, by go_num, rfl, by omega, ⟨by rw [List.append_assoc, ← he.out, HS.out, or128]; simp⟩, HO2, HB2⟩
      case measure => simp [intOf]; omega
end Go.Proofs.Ytfefpbnhpncmlaa.CodA
namespace Go.Proofs.Ytfefpbnhpncmlaa.CodB
open Go.RowKit Go.Proofs.Ytfefpbnhpncmlaa.B8 Go.Proofs.Ytfefpbnhpncmlaa.CodL Go.Proofs.Ytfefpbnhpncmlaa.CodA Go.Proofs.Ytfefpbnhpncmlaa.PBaseSigns Go.Proofs.YtfefpbnhpncmlaaW.PrintWords Go.Proofs.YtfefpbnhpncmlaaW.PrintLast Go.Proofs.YtfefpbnhpncmlaaW.PrintMore
attribute [local go_sem] max2_int min2_int max_two min_two
set_option linter.unusedVariables false
set_option linter.unusedSimpArgs false

theorem pow256 (j : Nat) : (2 : Int) ^ (8 * j) = 256 ^ j := by rw [Int.pow_mul]; rfl

theorem flat_fixed_len (size : Nat) (l : List Int) : (l.flatMap (fixedL size)).length = l.length * size := by
  induction l with
  | nil => simp
  | cons a l ih => rw [List.flatMap_cons, List.length_append, fixedL_len, ih, List.length_cons, Nat.add_mul]; omega

set_option maxRecDepth 100000 in
set_option maxHeartbeats 2000000 in
theorem fixed_calls (A : Option Addr) (c : Nat) (l : List Int) (size : Nat) (B : Option Addr) (d : Nat) (ns : List Int) (w : World) (hr : C8 w A l.length l) (hm : l.length ≤ 1000000) (h1 : 1 ≤ size) (h8 : size ≤ 8)
    (hq : Kd.C (Kd.int .u64) w B ns.length ns) (hk : ns.length ≤ 4) (hn : ∀ x ∈ ns, 0 ≤ x ∧ x < 18446744073709551616) :
    Calls Try.prog 90 #[.slice A l.length c, .int .i64 (size : Int), .slice B ns.length d] w (Tells w (l ++ ns.flatMap (fixedL size))) := by
  have HR := Aside0.mk (Kd.C_below hr (below_alloc (Below.refl w.heap.size w) (.cells #[] 5)))
  have HO := Aside0.mk (R8_new w w.heap.size (Nat.le_refl _) [] (by simp))
  have HB := Aside0.mk (below_alloc (Below.refl w.heap.size w) (.cells #[] 5))
  have hs : w.heap.size ≤ (w.alloc (.cells #[] 5)).heap.size := by simp
  have HQ := Aside0.mk hq
  have HN := Aside0.mk hn
  clear hr hq hn
  go_enter Try.func90, Try.ntmps90
  go_wp2_with (at_builtin; refine appRow (w0 := w) w.heap.size rfl (.tmp 11) (.tmp 12) rfl _ [] l A l.length c rfl rfl HO.out HR.out HB.out hs (by simp; omega) ?_; intro v1 w1 ho hb hgr; have HO1 := Aside0.mk ho; have HB1 := Aside0.mk hb; clear ho hb hgr)
  clear HO HR HB hs
  go_loopw [7, 23] (fun v7 v23 wr => ∃ (k : Nat) (out : List Int), v23 = .int .i64 (k : Int) ∧ k ≤ ns.length ∧ Aside0 (out = l ++ (ns.take k).flatMap (fixedL size)) ∧ Aside0 (R8 wr w.heap.size v7 out) ∧ Aside0 (Below w.heap.size w wr)) (fun _ v _ => ns.length - (intOf v).toNat)
  case atStart => exact ⟨0, l, rfl, Nat.zero_le _, ⟨by simp⟩, HO1, HB1⟩
  case round =>
    obtain ⟨k, out, rfl, hkn, he, HO, HB⟩ := hrel
    clear HO1 HB1
    obtain ⟨wo, rfl⟩ : ∃ wo : World, wo = wr := ⟨_, rfl⟩
    by_cases hlt : k < ns.length
    · obtain ⟨bq, off, hB, hbq, hx⟩ := C_at 0 HQ.out (by omega)
      subst hB
      have hx0 := hx k hlt
      have hc0 := (HB.out.cell (p := ⟨bq, off + k, none⟩) hbq).trans hx0
      clear hx hx0
      have hxn := HN.out (ns.getD k 0) (by simp [hlt])
      generalize hX : ns.getD k 0 = x at *
      obtain ⟨hx0, hx1⟩ := hxn
      have HX := Aside0.mk hX
      clear hX
      go_wp2
      go_loopw [7, 28] (fun v7 v28 wr => ∃ (j : Nat) (o2 : List Int), v28 = .int .i64 (j : Int) ∧ j ≤ size ∧ Aside0 (o2 = out ++ fixedL j x) ∧ Aside0 (R8 wr w.heap.size v7 o2) ∧ Aside0 (Below w.heap.size w wr)) (fun _ v _ => size - (intOf v).toNat)
      case atStart => exact ⟨0, out, rfl, Nat.zero_le _, ⟨by simp [fixedL]⟩, HO, HB⟩
      case round =>
        obtain ⟨j, o2, rfl, hj, he2, HO2, HB2⟩ := hrel
        have hlen : out.length ≤ 1000032 := by
          rw [he.out, List.length_append]
          rw [flat_fixed_len, List.length_take]
          have : min k ns.length * size ≤ 4 * 8 := Nat.mul_le_mul (by omega) h8
          omega
        have hlen2 : o2.length ≤ 1000040 := by rw [he2.out, List.length_append, fixedL_len]; omega
        clear hc0
        have hs := HB2.out.size
        by_cases hjl : j < size
        · go_wp2_with (at_builtin; refine app1 (w0 := w) w.heap.size rfl (.tmp 31) (.tmp 37) rfl _ o2 _ rfl rfl HO2.out HB2.out hs (by omega) ?_; intro v2 w2 ho hb; have HO3 := Aside0.mk ho; have HB3 := Aside0.mk hb; clear ho hb)
          go_roundw
          case rel => exact ⟨j + 1, _, by go_num, by omega, ⟨by rw [he2.out, List.append_assoc, fixedL_succ, pow256]⟩, HO3, HB3⟩
          case measure => simp [intOf]; omega
        · obtain rfl : j = size := by omega
          go_wp2
          go_roundw
          case rel => exact ⟨k + 1, o2, by go_num, by omega, ⟨by rw [he2.out, he.out, List.take_add_one, List.flatMap_append]; simp [hlt, ← HX.out]⟩, HO2, HB2⟩
          case measure => simp [intOf]; omega
    · obtain rfl : k = ns.length := by omega
      go_wp2
      go_ret
      exact ⟨_, rfl, by have := he.out; rw [List.take_length] at this; rw [← this]; exact HO.out, HB.out⟩

theorem wraps_u64 (n : Int) (h₀ : 0 ≤ n) (h₁ : n < 2 ^ 64) : IntKind.u64.wrap n = n := by rw [IntKind.wrap_u64]; omega
theorem take_snoc' {l : List Int} {j : Nat} (h : j < l.length) : l.take (j + 1) = l.take j ++ [l.getD j 0] := by
  rw [List.take_add_one]
  simp [h]
theorem pow_le {j : Nat} (h : j < 8) : (1 : Int) ≤ 256 ^ j ∧ (256 : Int) ^ j ≤ 72057594037927936 := by
  obtain rfl | rfl | rfl | rfl | rfl | rfl | rfl | rfl : j = 0 ∨ j = 1 ∨ j = 2 ∨ j = 3 ∨ j = 4 ∨ j = 5 ∨ j = 6 ∨ j = 7 := by omega
  all_goals simp
theorem or_step {l : List Int} (hb : Byt l) {j : Nat} (hj : j < l.length) (h8 : j < 8) :
    bits .or .u64 (leL (l.take j)) (IntKind.u64.wrap (IntKind.u64.wrap (l[j]?.getD 0) * 2 ^ (8 * j))) = leL (l.take (j + 1)) := by
  have h1 := hb.getD j
  have h2 : l[j]?.getD 0 = l.getD j 0 := by simp
  have h3 := leL_bound (hb.take j)
  have hl : (l.take j).length = j := by rw [List.length_take]; omega
  rw [hl] at h3
  have h4 := pow_le h8
  rw [take_snoc' hj, leL_snoc, hl, h2, pow256]
  generalize l.getD j 0 = b at *
  have h5 : 0 ≤ b * 256 ^ j := Int.mul_nonneg h1.1 (by omega)
  have h6 : b * 256 ^ j ≤ 255 * 72057594037927936 := Int.mul_le_mul (by omega) h4.2 (by omega) (by omega)
  rw [wraps_u64 b (by omega) (by omega), wraps_u64 _ h5 (by omega), Int.mul_comm (256 ^ j) b]
  refine Go.bits_join_low .u64 64 (by decide) wraps_u64 (8 * j) _ _ h3.1 (by rw [pow256]; exact h3.2) (by omega) h5 ?_ (by omega)
  rw [pow256]
  exact Int.mul_emod_left _ _

/-- What a number, and bytes, and that all is right, are told. -/
def TellsTake (w : World) (n : Int) (l : List Int) (e : Ending) (w' : World) : Prop := ∃ v, e = .returned (.tuple #[.int .u64 n, v, .bool true]) ∧ R8 w' w.heap.size v l ∧ Below w.heap.size w w'
set_option maxRecDepth 100000 in
set_option maxHeartbeats 2000000 in
theorem take_calls (A : Option Addr) (c : Nat) (l : List Int) (size : Nat) (w : World) (hr : C8 w A l.length l) (hb : Byt l) (hc : l.length ≤ c) (hm : l.length ≤ 1000000) (h1 : 1 ≤ size) (h8 : size ≤ 8) (hs : size ≤ l.length) :
    Calls Try.prog 95 #[.slice A l.length c, .int .i64 (size : Int)] w (TellsTake w (leL (l.take size)) (l.drop size)) := by
  have HR := Aside0.mk hr
  have HBY := Aside0.mk hb
  have hcut := cut8_to A l.length c size hs hc
  have hcut2 := cut8_from A l.length c size hs
  have HD := Aside0.mk (C8_drop hr hc hs)
  generalize (if c = size then A else A.map (·.add size)) = A2 at hcut2 HD
  obtain ⟨bq, off, rfl, hbq, hx⟩ := C_at 0 hr (by omega)
  have HX := Aside0.mk hx
  clear hr hb hx
  go_enter Try.func95, Try.ntmps95
  go_wp2
  go_loop [4, 25] (fun v4 v25 => ∃ (j : Nat), v25 = .int .i64 (j : Int) ∧ j ≤ size ∧ v4 = .int .u64 (leL (l.take j))) (fun _ v => size - (intOf v).toNat)
  case atStart => exact ⟨0, rfl, Nat.zero_le _, by simp [leL]⟩
  case round =>
    obtain ⟨j, rfl, hj, rfl⟩ := hrel
    by_cases hjl : j < size
    · have hx0 := HX.out j (by omega)
      go_wp2
      go_round
      case rel => exact ⟨j + 1, by go_num, by omega, by rw [or_step HBY.out (by omega) (by omega)]⟩
      case measure => simp [intOf]; omega
    · obtain rfl : j = size := by omega
      have HR2 := Aside0.mk (Kd.C_below HD.out (below_alloc (Below.refl w.heap.size w) (.cells #[] 5)))
      have HO := Aside0.mk (R8_new w w.heap.size (Nat.le_refl _) [] (by simp))
      have HB := Aside0.mk (below_alloc (Below.refl w.heap.size w) (.cells #[] 5))
      have hs2 : w.heap.size ≤ (w.alloc (.cells #[] 5)).heap.size := by simp
      go_wp2_with (at_builtin; refine appRow (w0 := w) w.heap.size rfl (.tmp 39) (.tmp 42) rfl _ [] (l.drop j) A2 (l.length - j) (c - j) rfl rfl HO.out HR2.out HB.out hs2 (by simp; omega) ?_; intro v1 w1 ho hb hgr; have HO1 := Aside0.mk ho; have HB1 := Aside0.mk hb; clear ho hb hgr)
      go_ret3
      exact ⟨_, rfl, HO1.out, HB1.out⟩
end Go.Proofs.Ytfefpbnhpncmlaa.CodB
namespace Go.Proofs.Ytfefpbnhpncmlaa.CodC
open Go.RowKit Go.Proofs.Ytfefpbnhpncmlaa.B8 Go.Proofs.Ytfefpbnhpncmlaa.CodL Go.Proofs.Ytfefpbnhpncmlaa.CodA Go.Proofs.Ytfefpbnhpncmlaa.CodB Go.Proofs.Ytfefpbnhpncmlaa.PBaseSigns Go.Proofs.YtfefpbnhpncmlaaW.PrintWords Go.Proofs.YtfefpbnhpncmlaaW.PrintLast Go.Proofs.YtfefpbnhpncmlaaW.PrintMore
attribute [local go_sem] max2_int min2_int max_two min_two
set_option linter.unusedVariables false
set_option linter.unusedSimpArgs false

theorem fail_calls (n : Int) (w : World) : Calls Try.prog 124 #[.int .i64 n] w fun e w' => e = .returned (.tuple #[.int .u64 0, .int .i64 0, .int .i64 n]) ∧ w = w' := by
  go_enter Try.func124, Try.ntmps124
  go_wp2
  go_ret3
  exact ⟨rfl, rfl⟩

theorem glen_up (n : Nat) : n < 128 ^ glen n := by
  induction n using shortL.induct with
  | case1 n h => rw [glen_small h]; omega
  | case2 n h ih =>
    rw [glen_more h, Nat.pow_succ]
    omega
theorem glen_of {m k : Nat} (h1 : m < 128 ^ (k + 1)) (h2 : 128 ^ k ≤ m ∨ k = 0) : glen m = k + 1 := by
  have h3 := glen_le (n := m) (k := k + 1) (by omega) h1
  have h4 := glen_up m
  have h5 := glen_pos m
  rcases h2 with h2 | h2
  · rcases Nat.lt_or_ge (glen m) (k + 1) with h6 | h6
    · have : 128 ^ glen m ≤ 128 ^ k := Nat.pow_le_pow_right (by decide) (by omega)
      omega
    · omega
  · omega
theorem glen_not {m k : Nat} (hk : 0 < k) (h1 : m < 128 ^ k) : glen m ≠ k + 1 := by
  have := glen_le hk h1
  omega

theorem andnot_fin : ∀ a : Fin 256, bits .andNot .u8 ((a.val : Nat) : Int) 128 = ((a.val % 128 : Nat) : Int) := by decide +kernel
theorem andnot128 (c : Int) (h0 : 0 ≤ c) (h1 : c < 256) : bits .andNot .u8 c 128 = c % 128 := by
  have := andnot_fin ⟨c.toNat, by omega⟩
  simp only [Int.toNat_of_nonneg h0] at this
  rw [this]
  omega
theorem sevenL_take {l : List Int} {j : Nat} (h : j < l.length) : sevenL (l.take (j + 1)) = sevenL (l.take j) + 128 ^ j * (l.getD j 0 % 128) := by
  rw [take_snoc' h, sevenL_snoc, List.length_take, Nat.min_eq_left (by omega)]
theorem pow128 (j : Nat) : (2 : Int) ^ (7 * j) = 128 ^ j := by rw [Int.pow_mul]; rfl
theorem pow_le' {j : Nat} (h : j ≤ 9) : (1 : Int) ≤ 128 ^ j ∧ (128 : Int) ^ j ≤ 9223372036854775808 := by
  obtain rfl | rfl | rfl | rfl | rfl | rfl | rfl | rfl | rfl | rfl : j = 0 ∨ j = 1 ∨ j = 2 ∨ j = 3 ∨ j = 4 ∨ j = 5 ∨ j = 6 ∨ j = 7 ∨ j = 8 ∨ j = 9 := by omega
  all_goals simp
theorem pow_le8 {j : Nat} (h : j ≤ 8) : (128 : Int) ^ j ≤ 72057594037927936 := by
  obtain rfl | rfl | rfl | rfl | rfl | rfl | rfl | rfl | rfl : j = 0 ∨ j = 1 ∨ j = 2 ∨ j = 3 ∨ j = 4 ∨ j = 5 ∨ j = 6 ∨ j = 7 ∨ j = 8 := by omega
  all_goals simp
/-- One group more. -/
theorem or_seven {l : List Int} (hb : Byt l) {j : Nat} (hj : j < l.length) (h9 : j ≤ 9) (hc : j = 9 → l.getD j 0 % 128 ≤ 1) :
    bits .or .u64 (sevenL (l.take j)) (IntKind.u64.wrap (l.getD j 0 % 128 * 2 ^ (7 * j))) = sevenL (l.take (j + 1)) ∧ sevenL (l.take (j + 1)) < 18446744073709551616 := by
  have h1 := hb.getD j
  have h3 := sevenL_bound (l.take j)
  have hl : (l.take j).length = j := by rw [List.length_take]; omega
  rw [hl] at h3
  have h4 := pow_le' h9
  rw [sevenL_take hj, pow128]
  generalize l.getD j 0 = b at *
  have h5 : 0 ≤ b % 128 * 128 ^ j := Int.mul_nonneg (by omega) (by omega)
  have h6 : b % 128 * 128 ^ j ≤ 9223372036854775808 := by
    by_cases h : j = 9
    · have := hc h
      subst h
      have : b % 128 = 0 ∨ b % 128 = 1 := by omega
      rcases this with h | h <;> rw [h] <;> simp
    · have h7 := pow_le8 (j := j) (by omega)
      have := Int.mul_le_mul (a := b % 128) (c := 127) (by omega) h7 (by omega) (by omega)
      omega
  rw [wraps_u64 _ h5 (by omega), Int.mul_comm (128 ^ j) (b % 128)]
  refine ⟨bits_join_low .u64 64 (by decide) wraps_u64 (7 * j) _ _ h3.1 (by rw [pow128]; exact h3.2) (by omega) h5 ?_ (by omega), by omega⟩
  rw [pow128]
  exact Int.mul_emod_left _ _
theorem blen_part (p : Nat) (h : p < 128) : blen p ≤ 7 ∧ (p ≤ 1 → blen p ≤ 1) ∧ (2 ≤ p → 2 ≤ blen p) := by
  refine ⟨?_, ?_, ?_⟩
  · unfold blen
    split
    · omega
    · have := log2_small h; omega
  · intro h1
    have : p = 0 ∨ p = 1 := by omega
    rcases this with rfl | rfl <;> decide
  · intro h2
    unfold blen
    rw [if_neg (by omega)]
    have := (Nat.le_log2 (n := p) (k := 1) (by omega)).2 (by omega)
    omega

set_option maxRecDepth 100000 in
set_option maxHeartbeats 2000000 in
theorem readShort_calls (A : Option Addr) (c : Nat) (l : List Int) (w : World) (hr : C8 w A l.length l) (hb : Byt l) (hc : l.length ≤ c) (hm : l.length ≤ 1000000) :
    Calls Try.prog 105 #[.slice A l.length c] w fun e w' => e = .returned (.tuple #[.int .u64 (readShort l).1, .int .i64 ((readShort l).2.1 : Int), .int .i64 (readShort l).2.2]) ∧ w = w' := by
  have HR := Aside0.mk hr
  have HBY := Aside0.mk hb
  clear hr hb
  obtain ⟨N, hN, hNl, hN10, hNe⟩ : ∃ N : Nat, (if (10 : Int) < (l.length : Int) then (10 : Int) else (l.length : Int)) = (N : Int) ∧ N ≤ l.length ∧ N ≤ 10 ∧ (N = 10 ∨ N = l.length) := by
    by_cases h : l.length ≤ 10
    · exact ⟨l.length, by rw [if_neg (by omega)], Nat.le_refl _, h, .inr rfl⟩
    · exact ⟨10, by rw [if_pos (by omega)]; rfl, by omega, Nat.le_refl _, .inl rfl⟩
  have hcut := cut8_to A l.length c N hNl hc
  go_enter Try.func105, Try.ntmps105
  go_wp2
  go_loop [2, 15] (fun v2 v15 => ∃ (j : Nat), v15 = .int .i64 (j : Int) ∧ j ≤ N ∧ v2 = .int .u64 (sevenL (l.take j)) ∧ Aside0 (∀ i, i < j → 128 ≤ l.getD i 0)) (fun _ v => N - (intOf v).toNat)
  case atStart => exact ⟨0, rfl, Nat.zero_le _, by simp [sevenL], ⟨fun i hi => by omega⟩⟩
  case round =>
    obtain ⟨j, rfl, hj, rfl, hlead⟩ := hrel
    have hjl := Aside0.mk (lead_ge (l := l) (by omega) hlead.out)
    by_cases hlt : j < N
    · obtain ⟨bq, off, rfl, hbq, hx⟩ := C_at 0 HR.out (by omega)
      have hx0 := hx j (by omega)
      have hb := HBY.out.getD j
      have HOS := Aside0.mk (or_seven HBY.out (j := j) (by omega) (by omega))
      have hsb := sevenL_bound (l.take (j + 1))
      have HSPEC := Aside0.mk (fun (h : l.getD j 0 < 128) => (by
        have h1 := lead_ge (l := l) (i := j) (by omega) hlead.out
        rcases Nat.lt_or_ge j (lead l) with h2 | h2
        · have := lead_lt h2; omega
        · omega : lead l = j))
      clear hx
      generalize hC : l.getD j 0 = cc at *
      have HC := Aside0.mk hC
      clear hC
      have hand := andnot128 cc hb.1 hb.2
      obtain ⟨p, hp⟩ : ∃ p : Nat, cc % 128 = (p : Int) := ⟨(cc % 128).toNat, by omega⟩
      have hp128 : p < 128 := by omega
      have hbl := blen_part p hp128
      have HL := Aside0.mk (len_calls p (by omega))
      rw [hp] at hand
      by_cases hA : j = 9 ∧ 2 ≤ p
      · have h4 := hbl.1
        have h3 := hbl.2.2 hA.2
        have h5 : 9 ≤ j := by omega
        have h6 : j ≤ 9 := by omega
        have h2 : (64 : Int) < (blen p : Int) + 7 * (j : Int) := by omega
        have hrs : readShort l = (0, 0, 11) := by
          have h7 := hjl.out
          unfold readShort
          by_cases h8 : 10 ≤ lead l
          · rw [if_pos h8]
          · have h9 : lead l = 9 := by omega
            have h10 : l.getD 9 0 = cc := by rw [← HC.out]; congr 1; omega
            have h11 := lead_le l
            have h12 := lead_at (l := l) (by omega)
            rw [if_neg h8, if_neg (by omega), if_pos (.inl ⟨h9, by omega⟩)]
        have HRS := Aside0.mk hrs
        have hw : IntKind.u64.wrap (p : Int) = (p : Int) := wraps_u64 _ (by omega) (by omega)
        clear hA hbl hp128 hrs
        have HP := Aside0.mk hp
        clear hp
        generalize blen p = bp at *
        go_wp2_with fail
        refine (HL.out _).mono ?_
        rintro e w1 ⟨rfl, rfl⟩
        go_wp2_with fail
        refine (fail_calls _ _).mono ?_
        rintro e w1 ⟨rfl, rfl⟩
        go_wp2
        go_ret3
        rw [HRS.out]
        exact ⟨rfl, rfl⟩
      · have h4 := hbl.1
        have h2 : (blen p : Int) + 7 * (j : Int) ≤ 64 := by
          by_cases h9 : j = 9
          · have := hbl.2.1 (by omega)
            omega
          · omega
        have hw : IntKind.u64.wrap (p : Int) = (p : Int) := wraps_u64 _ (by omega) (by omega)
        obtain ⟨hos, hosb⟩ := HOS.out (by omega)
        obtain ⟨m, hm'⟩ : ∃ m : Nat, sevenL (l.take (j + 1)) = (m : Int) := ⟨(sevenL (l.take (j + 1))).toNat, by omega⟩
        have HM := Aside0.mk hm'
        rw [hm', hp] at hos
        have hmb : m < 18446744073709551616 := by omega
        have HG := Aside0.mk (groups_calls m hmb)
        have hlen1 : (l.take (j + 1)).length = j + 1 := by rw [List.length_take]; omega
        have hm128 : m < 128 ^ (j + 1) := by
          have := hsb.2
          rw [hlen1, hm'] at this
          exact_mod_cast this
        have hms : (m : Int) = sevenL (l.take j) + 128 ^ j * (p : Int) := by
          rw [← hm', sevenL_take (by omega), HC.out, hp]
        have hsj := sevenL_bound (l.take j)
        have hlen0 : (l.take j).length = j := by rw [List.length_take]; omega
        rw [hlen0] at hsj
        by_cases hcl : cc < 128
        · have hld := HSPEC.out hcl
          have hcp : cc = (p : Int) := by omega
          by_cases hz : 0 < j ∧ p = 0
          · have hg : glen m ≠ j + 1 := by
              refine glen_not hz.1 ?_
              rw [hz.2] at hms
              have : (m : Int) < 128 ^ j := by simp at hms; omega
              exact_mod_cast this
            have hrs : readShort l = (0, 0, 11) := by
              unfold readShort
              rw [if_neg (by omega), if_neg (by omega), if_pos (.inr ⟨by omega, by rw [hld, HC.out]; omega⟩)]
            have HRS := Aside0.mk hrs
            have hne : ((glen m : Int) == (j : Int) + 1) = false := by simp; omega
            clear hrs hz hg hms hsj hlen0 hm128 hlen1 hm' hsb HOS hld hcp hp128 hA hbl HC
            have HP := Aside0.mk hp
            clear hp
            generalize blen p = bp at *
            generalize glen m = g at *
            go_wp2_with fail
            refine (HL.out _).mono ?_
            rintro e w1 ⟨rfl, rfl⟩
            go_wp2_with fail
            refine (HG.out _).mono ?_
            rintro e w1 ⟨rfl, rfl⟩
            go_wp2_with fail
            refine (fail_calls _ _).mono ?_
            rintro e w1 ⟨rfl, rfl⟩
            go_wp2
            go_ret3
            rw [HRS.out]
            exact ⟨rfl, rfl⟩
          · have hg : glen m = j + 1 := by
              refine glen_of hm128 ?_
              by_cases hj0 : j = 0
              · exact .inr hj0
              · left
                have h1p : (1 : Int) ≤ (p : Int) := by omega
                have := Int.mul_le_mul_of_nonneg_left h1p (show (0 : Int) ≤ 128 ^ j by have := (pow_le' (j := j) (by omega)).1; omega)
                have : (128 : Int) ^ j ≤ (m : Int) := by omega
                exact_mod_cast this
            have hrs : readShort l = ((m : Int), j + 1, 0) := by
              unfold readShort
              rw [if_neg (by omega), if_neg (by omega), if_neg ?_, hld, HM.out]
              rintro (⟨h1, h3⟩ | ⟨h1, h3⟩)
              · have : l.getD 9 0 = cc := by rw [← HC.out]; congr 1; omega
                omega
              · rw [hld, HC.out] at h3
                omega
            have HRS := Aside0.mk hrs
            rw [hg] at HG
            clear hrs hz hg hms hsj hlen0 hm128 hlen1 hm' hsb HOS hld hcp hp128 hA hbl HC
            have HP := Aside0.mk hp
            clear hp
            generalize blen p = bp at *
            go_wp2_with fail
            refine (HL.out _).mono ?_
            rintro e w1 ⟨rfl, rfl⟩
            go_wp2_with fail
            refine (HG.out _).mono ?_
            rintro e w1 ⟨rfl, rfl⟩
            go_wp2
            go_ret3
            rw [HRS.out]
            exact ⟨by simp, rfl⟩
        · have hc128 : 128 ≤ cc := by omega
          have hlead2 : Aside0 (∀ i, i < j + 1 → 128 ≤ l.getD i 0) := ⟨fun i hi => by
            by_cases h : i = j
            · rw [h, HC.out]; omega
            · exact hlead.out i (by omega)⟩
          clear hms hsj hlen0 hm128 hlen1 hm' hsb HOS hp128 hA hbl HC HSPEC
          have HP := Aside0.mk hp
          clear hp
          generalize blen p = bp at *
          go_wp2_with fail
          refine (HL.out _).mono ?_
          rintro e w1 ⟨rfl, rfl⟩
          go_wp2
          go_round
          case rel => exact ⟨j + 1, by go_num, by omega, by rw [HM.out], hlead2⟩
          case measure => simp [intOf]; omega
    · obtain rfl : j = N := by omega
      by_cases h10 : 10 ≤ l.length
      · have hrs : readShort l = (0, 0, 11) := by
          unfold readShort
          rw [if_pos (by have := hjl.out; omega)]
        have HRS := Aside0.mk hrs
        clear hrs hNe hN
        go_wp2_with fail
        refine (fail_calls _ _).mono ?_
        rintro e w1 ⟨rfl, rfl⟩
        go_wp2
        go_ret3
        rw [HRS.out]
        exact ⟨rfl, rfl⟩
      · have hrs : readShort l = (0, 0, 10) := by
          have := hjl.out
          have := lead_le l
          unfold readShort
          rw [if_neg (by omega), if_pos (by omega)]
        have HRS := Aside0.mk hrs
        clear hrs hNe hN
        go_wp2_with fail
        refine (fail_calls _ _).mono ?_
        rintro e w1 ⟨rfl, rfl⟩
        go_wp2
        go_ret3
        rw [HRS.out]
        exact ⟨rfl, rfl⟩
end Go.Proofs.Ytfefpbnhpncmlaa.CodC
namespace Go.Proofs.Ytfefpbnhpncmlaa.CatL
open Go.Proofs.Ytfefpbnhpncmlaa.CodL

end Go.Proofs.Ytfefpbnhpncmlaa.CatL
namespace Go.Proofs.Ytfefpbnhpncmlaa.PtrA
open Go.RowKit Go.Proofs.Ytfefpbnhpncmlaa.B8 Go.Proofs.Ytfefpbnhpncmlaa.CodL Go.Proofs.Ytfefpbnhpncmlaa.CatL Go.Proofs.Ytfefpbnhpncmlaa.PBaseSigns Go.Proofs.YtfefpbnhpncmlaaW.PrintWords Go.Proofs.YtfefpbnhpncmlaaW.PrintLast Go.Proofs.YtfefpbnhpncmlaaW.PrintMore
set_option linter.unusedVariables false
set_option linter.unusedSimpArgs false

end Go.Proofs.Ytfefpbnhpncmlaa.PtrA
namespace Go.Proofs.Ytfefpbnhpncmlaa.PtrB
open Go.RowKit Go.Proofs.Ytfefpbnhpncmlaa.B8 Go.Proofs.Ytfefpbnhpncmlaa.CodL Go.Proofs.Ytfefpbnhpncmlaa.CatL Go.Proofs.Ytfefpbnhpncmlaa.PtrA Go.Proofs.Ytfefpbnhpncmlaa.PBaseSigns Go.Proofs.YtfefpbnhpncmlaaW.PrintWords Go.Proofs.YtfefpbnhpncmlaaW.PrintLast Go.Proofs.YtfefpbnhpncmlaaW.PrintMore
set_option linter.unusedVariables false
set_option linter.unusedSimpArgs false

end Go.Proofs.Ytfefpbnhpncmlaa.PtrB
namespace Go.Proofs.Ytfefpbnhpncmlaa.PtrE
open Go.RowKit Go.Proofs.Ytfefpbnhpncmlaa.B8 Go.Proofs.Ytfefpbnhpncmlaa.CodL Go.Proofs.Ytfefpbnhpncmlaa.CatL Go.Proofs.Ytfefpbnhpncmlaa.PtrA
set_option linter.unusedVariables false
set_option linter.unusedSimpArgs false

end Go.Proofs.Ytfefpbnhpncmlaa.PtrE
namespace Go.Proofs.Ytfefpbnhpncmlaa.PtrF
open Go.RowKit Go.Proofs.Ytfefpbnhpncmlaa.B8 Go.Proofs.Ytfefpbnhpncmlaa.CodL Go.Proofs.Ytfefpbnhpncmlaa.CatL Go.Proofs.Ytfefpbnhpncmlaa.PtrA Go.Proofs.Ytfefpbnhpncmlaa.PtrB Go.Proofs.Ytfefpbnhpncmlaa.PtrE Go.Proofs.Ytfefpbnhpncmlaa.PBaseSigns Go.Proofs.YtfefpbnhpncmlaaW.PrintWords Go.Proofs.YtfefpbnhpncmlaaW.PrintLast Go.Proofs.YtfefpbnhpncmlaaW.PrintMore
set_option linter.unusedVariables false
set_option linter.unusedSimpArgs false

end Go.Proofs.Ytfefpbnhpncmlaa.PtrF
namespace Go.Proofs.Ytfefpbnhpncmlaa.PtrG
open Go.RowKit Go.Proofs.Ytfefpbnhpncmlaa.B8 Go.Proofs.Ytfefpbnhpncmlaa.CodL Go.Proofs.Ytfefpbnhpncmlaa.CodA Go.Proofs.Ytfefpbnhpncmlaa.CodB Go.Proofs.Ytfefpbnhpncmlaa.CatL Go.Proofs.Ytfefpbnhpncmlaa.PtrA Go.Proofs.Ytfefpbnhpncmlaa.PtrB Go.Proofs.Ytfefpbnhpncmlaa.PtrE Go.Proofs.Ytfefpbnhpncmlaa.PtrF Go.Proofs.Ytfefpbnhpncmlaa.PBaseSigns Go.Proofs.YtfefpbnhpncmlaaW.PrintWords Go.Proofs.YtfefpbnhpncmlaaW.PrintLast Go.Proofs.YtfefpbnhpncmlaaW.PrintMore
set_option linter.unusedVariables false
set_option linter.unusedSimpArgs false

/-- A new block of numbers, read. -/
theorem C64_new (w : World) (c : List Int) (t : TypeId) (hc : c.length ≤ 9223372036854775807) : Kd.C (Kd.int .u64) (w.alloc (.cells (c.map (Value.int .u64)).toArray t)) (some ⟨w.heap.size, 0, none⟩) c.length c := by
  refine ⟨rfl, hc, fun _ => ⟨_, rfl, fun j p hj => ⟨[.int .u64 p], rfl, rfl, fun i u hu => ?_⟩⟩⟩
  match i with
  | 0 =>
    simp only [show (Kd.int .u64).sz = 1 from rfl, Nat.mul_one, Nat.add_zero]
    rw [show (⟨w.heap.size, 0, none⟩ : Addr).add j = ⟨w.heap.size, j, none⟩ from by rw [add_at]; simp]
    simp only [World.cell?_alloc_new]
    simp only [List.getElem?_cons_zero, Option.some.injEq] at hu
    subst hu
    simp [hj]
  | i + 1 => simp at hu
theorem C64_at (w : World) (c : List Int) (t : TypeId) (n : Nat) (hn : n = w.heap.size) (hc : c.length ≤ 9223372036854775807) : Kd.C (Kd.int .u64) (w.alloc (.cells (c.map (Value.int .u64)).toArray t)) (some ⟨n, 0, none⟩) c.length c := by subst hn; exact C64_new w c t hc
end Go.Proofs.Ytfefpbnhpncmlaa.PtrG
namespace Go.Proofs.Ytfefpbnhpncmlaa.RefA
open Go.RowKit Go.Proofs.Ytfefpbnhpncmlaa.B8 Go.Proofs.Ytfefpbnhpncmlaa.CodL Go.Proofs.Ytfefpbnhpncmlaa.CodA Go.Proofs.Ytfefpbnhpncmlaa.CodB Go.Proofs.Ytfefpbnhpncmlaa.PBaseSigns Go.Proofs.YtfefpbnhpncmlaaW.PrintWords Go.Proofs.YtfefpbnhpncmlaaW.PrintLast Go.Proofs.YtfefpbnhpncmlaaW.PrintMore
attribute [local go_sem] max2_int min2_int max_two min_two
set_option linter.unusedVariables false
set_option linter.unusedSimpArgs false

end Go.Proofs.Ytfefpbnhpncmlaa.RefA
namespace Go.Proofs.Ytfefpbnhpncmlaa.RefD
open Go.RowKit Go.Proofs.Ytfefpbnhpncmlaa.PtrG Go.Proofs.Ytfefpbnhpncmlaa.RefA Go.Proofs.Ytfefpbnhpncmlaa.B8 Go.Proofs.Ytfefpbnhpncmlaa.CodL Go.Proofs.Ytfefpbnhpncmlaa.CodA Go.Proofs.Ytfefpbnhpncmlaa.CodB Go.Proofs.Ytfefpbnhpncmlaa.CatL Go.Proofs.Ytfefpbnhpncmlaa.PtrA Go.Proofs.Ytfefpbnhpncmlaa.PtrB Go.Proofs.Ytfefpbnhpncmlaa.PtrE Go.Proofs.Ytfefpbnhpncmlaa.PtrF Go.Proofs.Ytfefpbnhpncmlaa.PBaseSigns Go.Proofs.YtfefpbnhpncmlaaW.PrintWords Go.Proofs.YtfefpbnhpncmlaaW.PrintLast Go.Proofs.YtfefpbnhpncmlaaW.PrintMore
set_option linter.unusedVariables false
set_option linter.unusedSimpArgs false

end Go.Proofs.Ytfefpbnhpncmlaa.RefD
namespace Go.Proofs.Ytfefpbnhpncmlaa.RefE
open Go.RowKit Go.Proofs.Ytfefpbnhpncmlaa.B8 Go.Proofs.Ytfefpbnhpncmlaa.CodL Go.Proofs.Ytfefpbnhpncmlaa.CodA Go.Proofs.Ytfefpbnhpncmlaa.CodB Go.Proofs.Ytfefpbnhpncmlaa.CatL Go.Proofs.Ytfefpbnhpncmlaa.PtrA Go.Proofs.Ytfefpbnhpncmlaa.PtrB Go.Proofs.Ytfefpbnhpncmlaa.PtrE Go.Proofs.Ytfefpbnhpncmlaa.PtrF Go.Proofs.Ytfefpbnhpncmlaa.PBaseSigns Go.Proofs.YtfefpbnhpncmlaaW.PrintWords Go.Proofs.YtfefpbnhpncmlaaW.PrintLast Go.Proofs.YtfefpbnhpncmlaaW.PrintMore
set_option linter.unusedVariables false
set_option linter.unusedSimpArgs false

end Go.Proofs.Ytfefpbnhpncmlaa.RefE
namespace Go.Proofs.Ytfefpbnhpncmlaa.PtrH
open Go.RowKit Go.Proofs.Ytfefpbnhpncmlaa.B8 Go.Proofs.Ytfefpbnhpncmlaa.CodL Go.Proofs.Ytfefpbnhpncmlaa.CodA Go.Proofs.Ytfefpbnhpncmlaa.CodB Go.Proofs.Ytfefpbnhpncmlaa.CatL Go.Proofs.Ytfefpbnhpncmlaa.PtrA Go.Proofs.Ytfefpbnhpncmlaa.PtrB Go.Proofs.Ytfefpbnhpncmlaa.PtrE Go.Proofs.Ytfefpbnhpncmlaa.PtrF Go.Proofs.Ytfefpbnhpncmlaa.PBaseSigns Go.Proofs.YtfefpbnhpncmlaaW.PrintWords Go.Proofs.YtfefpbnhpncmlaaW.PrintLast Go.Proofs.YtfefpbnhpncmlaaW.PrintMore
set_option linter.unusedVariables false
set_option linter.unusedSimpArgs false

end Go.Proofs.Ytfefpbnhpncmlaa.PtrH
namespace Go.Proofs.Ytfefpbnhpncmlaa.Agg
open Go.RowKit
set_option linter.unusedVariables false
variable {P : Program}

theorem setRow_same (w : World) (g : Nat) (cs : Array Value) (t : TypeId) (fr : Nat × Nat) (hg : w.heap[g]? = some (.cells cs t fr)) : w.setRow g cs = w := by
  unfold World.setRow
  refine Eq.trans (b := ({ w with heap := w.heap } : World)) ?_ rfl
  congr 1
  apply Array.ext_getElem?
  intro i
  rw [Array.getElem?_modify]
  by_cases h : g = i
  · subst h
    rw [if_pos rfl, hg]
    rfl
  · rw [if_neg h]

theorem heap_new (w : World) (o : Obj) : (w.alloc o).heap[w.heap.size]? = some o := heap_alloc_last w o

theorem wpList_store_same {ops : Array Oper} {rest : List Oper} {o : Oper} {a : Act} {w : World} {Q : Exit → Act → World → Prop} (hgd : o.guard = none) (ty : TypeId) (x y : Operand) (ho : o.op = .store ty x y)
    (g : Nat) (cs : Array Value) (hx : a.eval x = .pointer (some ⟨g, 0, none⟩)) (hy : a.eval y = .agg cs) (t : TypeId) (hg : w.heap[g]? = some (.cells cs t (0, 0)))
    (hi : (P.info? ty).map (·.size) = some cs.size) (h1 : cs.all (·.oneCell') = true) (h : wpList P ops Q rest (a.put o.dst undef) w) : wpList P ops Q (o :: rest) a w := by
  refine wpList_plain hgd fun K hK => ?_
  have hs := setRow_same w g cs t (0, 0) hg
  refine wp_store_row ty x y ho g cs hx hy t cs hg hi rfl h1 ?_
  rw [hs]
  exact hK _ _ h

section
variable {fn : Func} {w : World} {g : Nat} {t ty p q : Nat} {cs : Array Value} {fr : Nat × Nat} {d : TypeDesc} (tmps : Array Value)
theorem res_ct (h : fn.results = #[.cell p ty, .tmp q]) (hp : tmps.getD p undef = .pointer (some ⟨g, 0, none⟩)) (hg : w.heap[g]? = some (.cells cs t fr))
    (hu : P.underlying ty = some d) (hd : (match d with | .struct _ | .array _ _ => true | _ => false) = true) (hi : (P.info? ty).map (·.size) = some cs.size) :
    (results fn tmps).run P w = .ok (.tuple #[.agg cs, tmps.getD q undef]) w := by
  have hp' : tmps[p]?.getD undef = .pointer (some ⟨g, 0, none⟩) := by simpa using hp
  simp [results, h, hp', asAddr, run_loadVar_row w g t ty cs fr d hg hu hd hi]
end
end Go.Proofs.Ytfefpbnhpncmlaa.Agg
namespace Go.Proofs.Ytfefpbnhpncmlaa.PtrI
open Go.RowKit Go.Proofs.Ytfefpbnhpncmlaa.Agg Go.Proofs.Ytfefpbnhpncmlaa.PtrH Go.Proofs.Ytfefpbnhpncmlaa.B8 Go.Proofs.Ytfefpbnhpncmlaa.CodL Go.Proofs.Ytfefpbnhpncmlaa.CodA Go.Proofs.Ytfefpbnhpncmlaa.CodB Go.Proofs.Ytfefpbnhpncmlaa.CatL Go.Proofs.Ytfefpbnhpncmlaa.PtrA Go.Proofs.Ytfefpbnhpncmlaa.PtrB Go.Proofs.Ytfefpbnhpncmlaa.PtrE Go.Proofs.Ytfefpbnhpncmlaa.PtrF Go.Proofs.Ytfefpbnhpncmlaa.PBaseSigns Go.Proofs.YtfefpbnhpncmlaaW.PrintWords Go.Proofs.YtfefpbnhpncmlaaW.PrintLast Go.Proofs.YtfefpbnhpncmlaaW.PrintMore
set_option linter.unusedVariables false
set_option linter.unusedSimpArgs false

end Go.Proofs.Ytfefpbnhpncmlaa.PtrI
namespace Go.Proofs.Ytfefpbnhpncmlaa.PtrK
open Go.RowKit Go.Proofs.Ytfefpbnhpncmlaa.CodL Go.Proofs.Ytfefpbnhpncmlaa.CatL Go.Proofs.Ytfefpbnhpncmlaa.PtrE Go.Proofs.Ytfefpbnhpncmlaa.PtrF

end Go.Proofs.Ytfefpbnhpncmlaa.PtrK
namespace Go.Proofs.Ytfefpbnhpncmlaa.PtrJ
open Go.RowKit Go.Proofs.Ytfefpbnhpncmlaa.PtrK Go.Proofs.Ytfefpbnhpncmlaa.PtrI Go.Proofs.Ytfefpbnhpncmlaa.Agg Go.Proofs.Ytfefpbnhpncmlaa.PtrH Go.Proofs.Ytfefpbnhpncmlaa.B8 Go.Proofs.Ytfefpbnhpncmlaa.CodL Go.Proofs.Ytfefpbnhpncmlaa.CodA Go.Proofs.Ytfefpbnhpncmlaa.CodB Go.Proofs.Ytfefpbnhpncmlaa.CatL Go.Proofs.Ytfefpbnhpncmlaa.PtrA Go.Proofs.Ytfefpbnhpncmlaa.PtrB Go.Proofs.Ytfefpbnhpncmlaa.PtrE Go.Proofs.Ytfefpbnhpncmlaa.PtrF Go.Proofs.Ytfefpbnhpncmlaa.PBaseSigns Go.Proofs.YtfefpbnhpncmlaaW.PrintWords Go.Proofs.YtfefpbnhpncmlaaW.PrintLast Go.Proofs.YtfefpbnhpncmlaaW.PrintMore
set_option linter.unusedVariables false
set_option linter.unusedSimpArgs false

end Go.Proofs.Ytfefpbnhpncmlaa.PtrJ
namespace Go.Proofs.Ytfefpbnhpncmlaa.PtrL
open Go.RowKit Go.Proofs.Ytfefpbnhpncmlaa.PtrI Go.Proofs.Ytfefpbnhpncmlaa.PtrJ Go.Proofs.Ytfefpbnhpncmlaa.Agg Go.Proofs.Ytfefpbnhpncmlaa.PtrH Go.Proofs.Ytfefpbnhpncmlaa.B8 Go.Proofs.Ytfefpbnhpncmlaa.CodL Go.Proofs.Ytfefpbnhpncmlaa.CodA Go.Proofs.Ytfefpbnhpncmlaa.CodB Go.Proofs.Ytfefpbnhpncmlaa.CatL Go.Proofs.Ytfefpbnhpncmlaa.PtrA Go.Proofs.Ytfefpbnhpncmlaa.PtrB Go.Proofs.Ytfefpbnhpncmlaa.PtrE Go.Proofs.Ytfefpbnhpncmlaa.PtrF Go.Proofs.Ytfefpbnhpncmlaa.PBaseSigns Go.Proofs.YtfefpbnhpncmlaaW.PrintWords Go.Proofs.YtfefpbnhpncmlaaW.PrintLast Go.Proofs.YtfefpbnhpncmlaaW.PrintMore
set_option linter.unusedVariables false
set_option linter.unusedSimpArgs false

end Go.Proofs.Ytfefpbnhpncmlaa.PtrL
namespace Go.Proofs.Ytfefpbnhpncmlaa.RefF
open Go.RowKit Go.Proofs.Ytfefpbnhpncmlaa.Agg Go.Proofs.Ytfefpbnhpncmlaa.PtrH Go.Proofs.Ytfefpbnhpncmlaa.B8 Go.Proofs.Ytfefpbnhpncmlaa.CodL Go.Proofs.Ytfefpbnhpncmlaa.CodA Go.Proofs.Ytfefpbnhpncmlaa.CodB Go.Proofs.Ytfefpbnhpncmlaa.CatL Go.Proofs.Ytfefpbnhpncmlaa.PtrA Go.Proofs.Ytfefpbnhpncmlaa.PtrB Go.Proofs.Ytfefpbnhpncmlaa.PtrE Go.Proofs.Ytfefpbnhpncmlaa.PtrF Go.Proofs.Ytfefpbnhpncmlaa.PBaseSigns Go.Proofs.YtfefpbnhpncmlaaW.PrintWords Go.Proofs.YtfefpbnhpncmlaaW.PrintLast Go.Proofs.YtfefpbnhpncmlaaW.PrintMore
set_option linter.unusedVariables false
set_option linter.unusedSimpArgs false

end Go.Proofs.Ytfefpbnhpncmlaa.RefF
namespace Go.Proofs.Ytfefpbnhpncmlaa.RefB
open Go.RowKit Go.Proofs.Ytfefpbnhpncmlaa.B8 Go.Proofs.Ytfefpbnhpncmlaa.CodL Go.Proofs.Ytfefpbnhpncmlaa.CodA Go.Proofs.Ytfefpbnhpncmlaa.CodB Go.Proofs.Ytfefpbnhpncmlaa.PBaseSigns Go.Proofs.YtfefpbnhpncmlaaW.PrintWords Go.Proofs.YtfefpbnhpncmlaaW.PrintLast Go.Proofs.YtfefpbnhpncmlaaW.PrintMore
attribute [local go_sem] max2_int min2_int max_two min_two
set_option linter.unusedVariables false
set_option linter.unusedSimpArgs false

end Go.Proofs.Ytfefpbnhpncmlaa.RefB
namespace Go.Proofs.Ytfefpbnhpncmlaa.RefC
open Go.RowKit Go.Proofs.Ytfefpbnhpncmlaa.B8 Go.Proofs.Ytfefpbnhpncmlaa.CodL Go.Proofs.Ytfefpbnhpncmlaa.CodA Go.Proofs.Ytfefpbnhpncmlaa.CodB Go.Proofs.Ytfefpbnhpncmlaa.PBaseSigns Go.Proofs.YtfefpbnhpncmlaaW.PrintWords Go.Proofs.YtfefpbnhpncmlaaW.PrintLast Go.Proofs.YtfefpbnhpncmlaaW.PrintMore
attribute [local go_sem] max2_int min2_int max_two min_two
set_option linter.unusedVariables false
set_option linter.unusedSimpArgs false

end Go.Proofs.Ytfefpbnhpncmlaa.RefC
namespace Go.Proofs.Ytfefpbnhpncmlaa.RefG
open Go.RowKit Go.Proofs.Ytfefpbnhpncmlaa.Agg Go.Proofs.Ytfefpbnhpncmlaa.PtrH Go.Proofs.Ytfefpbnhpncmlaa.B8 Go.Proofs.Ytfefpbnhpncmlaa.CodL Go.Proofs.Ytfefpbnhpncmlaa.CodA Go.Proofs.Ytfefpbnhpncmlaa.CodB Go.Proofs.Ytfefpbnhpncmlaa.CatL Go.Proofs.Ytfefpbnhpncmlaa.PtrA Go.Proofs.Ytfefpbnhpncmlaa.PtrB Go.Proofs.Ytfefpbnhpncmlaa.PtrE Go.Proofs.Ytfefpbnhpncmlaa.PtrF Go.Proofs.Ytfefpbnhpncmlaa.PBaseSigns Go.Proofs.YtfefpbnhpncmlaaW.PrintWords Go.Proofs.YtfefpbnhpncmlaaW.PrintLast Go.Proofs.YtfefpbnhpncmlaaW.PrintMore
set_option linter.unusedVariables false
set_option linter.unusedSimpArgs false

/-- b[lo:hi] of a row of bytes -/
theorem cut8_mid (A : Option Addr) (n c lo hi : Nat) (h1 : lo ≤ hi) (h2 : hi ≤ n) (hc : n ≤ c) (W : World) : (Instr.slice 31 (.slice A n c) (some (.int .i64 (lo : Int))) (some (.int .i64 (hi : Int))) none).run Try.prog W = .ok (.slice (if c = lo then A else A.map (·.add lo)) (hi - lo) (c - lo)) W := by
  obtain ⟨i0, hi0, _, hs, _⟩ := info_parts info5
  have := cut_mid (P := Try.prog) 31 5 .i64 .i64 Try.underlying31 hi0 1 hs A n c (lo : Int) (hi : Int) (by omega) (by omega) (by omega) hc W
  simpa using this
theorem C8_mid {w : World} {A : Option Addr} {n c lo hi : Nat} {xs : List Int} (h : C8 w A n xs) (hc : n ≤ c) (h1 : lo ≤ hi) (h2 : hi ≤ n) : C8 w (if c = lo then A else A.map (·.add lo)) (hi - lo) ((xs.take hi).drop lo) :=
  C8_drop (B8.C_take h h2) (by omega) h1
end Go.Proofs.Ytfefpbnhpncmlaa.RefG
namespace Go.Proofs.Ytfefpbnhpncmlaa.PtrC
open Go.RowKit Go.Proofs.Ytfefpbnhpncmlaa.B8 Go.Proofs.Ytfefpbnhpncmlaa.CodL Go.Proofs.Ytfefpbnhpncmlaa.CatL Go.Proofs.Ytfefpbnhpncmlaa.PtrA Go.Proofs.Ytfefpbnhpncmlaa.PtrB Go.Proofs.Ytfefpbnhpncmlaa.PBaseSigns Go.Proofs.YtfefpbnhpncmlaaW.PrintWords Go.Proofs.YtfefpbnhpncmlaaW.PrintLast Go.Proofs.YtfefpbnhpncmlaaW.PrintMore
set_option linter.unusedVariables false
set_option linter.unusedSimpArgs false


end Go.Proofs.Ytfefpbnhpncmlaa.PtrC
namespace Go.Proofs.Ytfefpbnhpncmlaa.RefH
open Go.RowKit Go.Proofs.Ytfefpbnhpncmlaa.RefG Go.Proofs.Ytfefpbnhpncmlaa.Agg Go.Proofs.Ytfefpbnhpncmlaa.PtrH Go.Proofs.Ytfefpbnhpncmlaa.B8 Go.Proofs.Ytfefpbnhpncmlaa.CodL Go.Proofs.Ytfefpbnhpncmlaa.CodA Go.Proofs.Ytfefpbnhpncmlaa.CodB Go.Proofs.Ytfefpbnhpncmlaa.CatL Go.Proofs.Ytfefpbnhpncmlaa.PtrA Go.Proofs.Ytfefpbnhpncmlaa.PtrB Go.Proofs.Ytfefpbnhpncmlaa.PtrE Go.Proofs.Ytfefpbnhpncmlaa.PtrF Go.Proofs.Ytfefpbnhpncmlaa.PBaseSigns Go.Proofs.YtfefpbnhpncmlaaW.PrintWords Go.Proofs.YtfefpbnhpncmlaaW.PrintLast Go.Proofs.YtfefpbnhpncmlaaW.PrintMore
set_option linter.unusedVariables false
set_option linter.unusedSimpArgs false

end Go.Proofs.Ytfefpbnhpncmlaa.RefH
namespace Go.Proofs.Ytfefpbnhpncmlaa.RefI
open Go.RowKit Go.Proofs.Ytfefpbnhpncmlaa.B8 Go.Proofs.Ytfefpbnhpncmlaa.CodL Go.Proofs.Ytfefpbnhpncmlaa.CodA Go.Proofs.Ytfefpbnhpncmlaa.CodB Go.Proofs.Ytfefpbnhpncmlaa.CodC Go.Proofs.Ytfefpbnhpncmlaa.PBaseSigns Go.Proofs.YtfefpbnhpncmlaaW.PrintWords Go.Proofs.YtfefpbnhpncmlaaW.PrintLast Go.Proofs.YtfefpbnhpncmlaaW.PrintMore
attribute [local go_sem] max2_int min2_int max_two min_two
set_option linter.unusedVariables false
set_option linter.unusedSimpArgs false

end Go.Proofs.Ytfefpbnhpncmlaa.RefI
namespace Go.Proofs.Ytfefpbnhpncmlaa.CatS
open Go.RowKit Go.Proofs.Ytfefpbnhpncmlaa.B8 Go.Proofs.Ytfefpbnhpncmlaa.CodL Go.Proofs.Ytfefpbnhpncmlaa.CodA Go.Proofs.Ytfefpbnhpncmlaa.CodB Go.Proofs.Ytfefpbnhpncmlaa.PBaseSigns Go.Proofs.YtfefpbnhpncmlaaW.PrintWords Go.Proofs.YtfefpbnhpncmlaaW.PrintLast Go.Proofs.YtfefpbnhpncmlaaW.PrintMore
attribute [local go_sem] max2_int min2_int max_two min_two
set_option linter.unusedVariables false
set_option linter.unusedSimpArgs false

theorem short_at (A : Option Addr) (c m : Nat) (l L : List Int) (n : Nat) (x : Int) (w : World) (hml : m = l.length) (hL : L = l ++ shortL n) (hx : x = (n : Int)) (hr : C8 w A l.length l) (hm : l.length ≤ 1000000) (hn : n < 18446744073709551616) :
    Calls Try.prog 89 #[.slice A m c, .int .u64 x] w (Tells w L) := by
  subst hml; subst hL; subst hx
  first | exact short_calls A c l n w hr hm hn | exact short_calls A c l n w hr hn hm
end Go.Proofs.Ytfefpbnhpncmlaa.CatS
namespace Go.Proofs.Ytfefpbnhpncmlaa.CatK
open Go.RowKit Go.Proofs.Ytfefpbnhpncmlaa.PtrB Go.Proofs.Ytfefpbnhpncmlaa.Agg Go.Proofs.Ytfefpbnhpncmlaa.B8 Go.Proofs.Ytfefpbnhpncmlaa.CodL Go.Proofs.Ytfefpbnhpncmlaa.CodA Go.Proofs.Ytfefpbnhpncmlaa.CodB Go.Proofs.Ytfefpbnhpncmlaa.CatL Go.Proofs.Ytfefpbnhpncmlaa.PtrA Go.Proofs.Ytfefpbnhpncmlaa.PtrE Go.Proofs.Ytfefpbnhpncmlaa.PtrF Go.Proofs.Ytfefpbnhpncmlaa.PBaseSigns Go.Proofs.YtfefpbnhpncmlaaW.PrintWords Go.Proofs.YtfefpbnhpncmlaaW.PrintLast Go.Proofs.YtfefpbnhpncmlaaW.PrintMore
set_option linter.unusedVariables false
set_option linter.unusedSimpArgs false

theorem rangeAt_below {w w1 : World} {b o B : Nat} {cs : List Value} (h : w.rangeAt b o cs) (hb : Below B w w1) (hB : b < B) : w1.rangeAt b o cs := fun j v hv => (hb.cell (p := ⟨b, o + j, none⟩) hB).trans (h j v hv)

section
variable {ops : Array Oper} {o : Oper} {rest : List Oper} {a : Act} {w : World} {Q : Exit → Act → World → Prop}
end

end Go.Proofs.Ytfefpbnhpncmlaa.CatK
namespace Go.Proofs.Ytfefpbnhpncmlaa.CatM
open Go.RowKit Go.Proofs.Ytfefpbnhpncmlaa.CatK Go.Proofs.Ytfefpbnhpncmlaa.PtrB Go.Proofs.Ytfefpbnhpncmlaa.Agg Go.Proofs.Ytfefpbnhpncmlaa.B8 Go.Proofs.Ytfefpbnhpncmlaa.CodL Go.Proofs.Ytfefpbnhpncmlaa.CodA Go.Proofs.Ytfefpbnhpncmlaa.CodB Go.Proofs.Ytfefpbnhpncmlaa.CatL Go.Proofs.Ytfefpbnhpncmlaa.PtrA Go.Proofs.Ytfefpbnhpncmlaa.PtrE Go.Proofs.Ytfefpbnhpncmlaa.PtrF Go.Proofs.Ytfefpbnhpncmlaa.PBaseSigns Go.Proofs.YtfefpbnhpncmlaaW.PrintWords Go.Proofs.YtfefpbnhpncmlaaW.PrintLast Go.Proofs.YtfefpbnhpncmlaaW.PrintMore
set_option linter.unusedVariables false
set_option linter.unusedSimpArgs false

end Go.Proofs.Ytfefpbnhpncmlaa.CatM
namespace Go.Proofs.Ytfefpbnhpncmlaa.CatN
open Go.RowKit Go.Proofs.Ytfefpbnhpncmlaa.CatM Go.Proofs.Ytfefpbnhpncmlaa.CatK Go.Proofs.Ytfefpbnhpncmlaa.CatS Go.Proofs.Ytfefpbnhpncmlaa.PtrB Go.Proofs.Ytfefpbnhpncmlaa.Agg Go.Proofs.Ytfefpbnhpncmlaa.B8 Go.Proofs.Ytfefpbnhpncmlaa.CodL Go.Proofs.Ytfefpbnhpncmlaa.CodA Go.Proofs.Ytfefpbnhpncmlaa.CodB Go.Proofs.Ytfefpbnhpncmlaa.CatL Go.Proofs.Ytfefpbnhpncmlaa.PtrA Go.Proofs.Ytfefpbnhpncmlaa.PtrE Go.Proofs.Ytfefpbnhpncmlaa.PtrF Go.Proofs.Ytfefpbnhpncmlaa.PtrG Go.Proofs.Ytfefpbnhpncmlaa.PBaseSigns Go.Proofs.YtfefpbnhpncmlaaW.PrintWords Go.Proofs.YtfefpbnhpncmlaaW.PrintLast Go.Proofs.YtfefpbnhpncmlaaW.PrintMore
set_option linter.unusedVariables false
set_option linter.unusedSimpArgs false

end Go.Proofs.Ytfefpbnhpncmlaa.CatN
namespace Go.Proofs.Ytfefpbnhpncmlaa.CatO
open Go.RowKit Go.Proofs.Ytfefpbnhpncmlaa.CatN Go.Proofs.Ytfefpbnhpncmlaa.CatM Go.Proofs.Ytfefpbnhpncmlaa.CatK Go.Proofs.Ytfefpbnhpncmlaa.CatS Go.Proofs.Ytfefpbnhpncmlaa.PtrB Go.Proofs.Ytfefpbnhpncmlaa.Agg Go.Proofs.Ytfefpbnhpncmlaa.B8 Go.Proofs.Ytfefpbnhpncmlaa.CodL Go.Proofs.Ytfefpbnhpncmlaa.CodA Go.Proofs.Ytfefpbnhpncmlaa.CodB Go.Proofs.Ytfefpbnhpncmlaa.CatL Go.Proofs.Ytfefpbnhpncmlaa.PtrA Go.Proofs.Ytfefpbnhpncmlaa.PtrE Go.Proofs.Ytfefpbnhpncmlaa.PtrF Go.Proofs.Ytfefpbnhpncmlaa.PtrG Go.Proofs.Ytfefpbnhpncmlaa.PBaseSigns Go.Proofs.YtfefpbnhpncmlaaW.PrintWords Go.Proofs.YtfefpbnhpncmlaaW.PrintLast Go.Proofs.YtfefpbnhpncmlaaW.PrintMore
set_option linter.unusedVariables false
set_option linter.unusedSimpArgs false

end Go.Proofs.Ytfefpbnhpncmlaa.CatO
namespace Go.Proofs.Ytfefpbnhpncmlaa.CatR
open Go.RowKit Go.Proofs.Ytfefpbnhpncmlaa.CatK Go.Proofs.Ytfefpbnhpncmlaa.PtrB Go.Proofs.Ytfefpbnhpncmlaa.Agg Go.Proofs.Ytfefpbnhpncmlaa.B8 Go.Proofs.Ytfefpbnhpncmlaa.CodL Go.Proofs.Ytfefpbnhpncmlaa.CodA Go.Proofs.Ytfefpbnhpncmlaa.CodB Go.Proofs.Ytfefpbnhpncmlaa.CatL Go.Proofs.Ytfefpbnhpncmlaa.PtrA Go.Proofs.Ytfefpbnhpncmlaa.PtrE Go.Proofs.Ytfefpbnhpncmlaa.PtrF Go.Proofs.Ytfefpbnhpncmlaa.PBaseSigns Go.Proofs.YtfefpbnhpncmlaaW.PrintWords Go.Proofs.YtfefpbnhpncmlaaW.PrintLast Go.Proofs.YtfefpbnhpncmlaaW.PrintMore
set_option linter.unusedVariables false
set_option linter.unusedSimpArgs false

end Go.Proofs.Ytfefpbnhpncmlaa.CatR
namespace Go.Proofs.Ytfefpbnhpncmlaa.CatT
open Go.RowKit Go.Proofs.Ytfefpbnhpncmlaa.CatR Go.Proofs.Ytfefpbnhpncmlaa.CatK Go.Proofs.Ytfefpbnhpncmlaa.PtrB Go.Proofs.Ytfefpbnhpncmlaa.Agg Go.Proofs.Ytfefpbnhpncmlaa.B8 Go.Proofs.Ytfefpbnhpncmlaa.CodL Go.Proofs.Ytfefpbnhpncmlaa.CodA Go.Proofs.Ytfefpbnhpncmlaa.CodB Go.Proofs.Ytfefpbnhpncmlaa.CatL Go.Proofs.Ytfefpbnhpncmlaa.PtrA Go.Proofs.Ytfefpbnhpncmlaa.PtrE Go.Proofs.Ytfefpbnhpncmlaa.PtrF Go.Proofs.Ytfefpbnhpncmlaa.PBaseSigns Go.Proofs.YtfefpbnhpncmlaaW.PrintWords Go.Proofs.YtfefpbnhpncmlaaW.PrintLast Go.Proofs.YtfefpbnhpncmlaaW.PrintMore
set_option linter.unusedVariables false
set_option linter.unusedSimpArgs false

end Go.Proofs.Ytfefpbnhpncmlaa.CatT
namespace Go.Proofs.Ytfefpbnhpncmlaa.CatU
open Go.RowKit Go.Proofs.Ytfefpbnhpncmlaa.CatT Go.Proofs.Ytfefpbnhpncmlaa.CatR Go.Proofs.Ytfefpbnhpncmlaa.CatK Go.Proofs.Ytfefpbnhpncmlaa.PtrB Go.Proofs.Ytfefpbnhpncmlaa.Agg Go.Proofs.Ytfefpbnhpncmlaa.B8 Go.Proofs.Ytfefpbnhpncmlaa.CodL Go.Proofs.Ytfefpbnhpncmlaa.CodA Go.Proofs.Ytfefpbnhpncmlaa.CodB Go.Proofs.Ytfefpbnhpncmlaa.CatL Go.Proofs.Ytfefpbnhpncmlaa.PtrA Go.Proofs.Ytfefpbnhpncmlaa.PtrE Go.Proofs.Ytfefpbnhpncmlaa.PtrF Go.Proofs.Ytfefpbnhpncmlaa.PBaseSigns Go.Proofs.YtfefpbnhpncmlaaW.PrintWords Go.Proofs.YtfefpbnhpncmlaaW.PrintLast Go.Proofs.YtfefpbnhpncmlaaW.PrintMore
set_option linter.unusedVariables false
set_option linter.unusedSimpArgs false

end Go.Proofs.Ytfefpbnhpncmlaa.CatU
namespace Go.Proofs.Ytfefpbnhpncmlaa.CatW
open Go.RowKit Go.Proofs.Ytfefpbnhpncmlaa.CatK Go.Proofs.Ytfefpbnhpncmlaa.Agg Go.Proofs.Ytfefpbnhpncmlaa.B8 Go.Proofs.Ytfefpbnhpncmlaa.CatL Go.Proofs.Ytfefpbnhpncmlaa.PtrE Go.Proofs.Ytfefpbnhpncmlaa.PtrF Go.Proofs.YtfefpbnhpncmlaaW.PrintWords
set_option linter.unusedVariables false
set_option linter.unusedSimpArgs false

section
variable {ops : Array Oper} {o : Oper} {rest : List Oper} {a : Act} {Q : Exit → Act → World → Prop} {K : Act → World → Prop}
end
end Go.Proofs.Ytfefpbnhpncmlaa.CatW
namespace Go.Proofs.Ytfefpbnhpncmlaa.CatV
open Go.RowKit Go.Proofs.Ytfefpbnhpncmlaa.CatW Go.Proofs.Ytfefpbnhpncmlaa.CatT Go.Proofs.Ytfefpbnhpncmlaa.CatR Go.Proofs.Ytfefpbnhpncmlaa.CatK Go.Proofs.Ytfefpbnhpncmlaa.CatM Go.Proofs.Ytfefpbnhpncmlaa.CatN Go.Proofs.Ytfefpbnhpncmlaa.PtrB Go.Proofs.Ytfefpbnhpncmlaa.Agg Go.Proofs.Ytfefpbnhpncmlaa.B8 Go.Proofs.Ytfefpbnhpncmlaa.CodL Go.Proofs.Ytfefpbnhpncmlaa.CodA Go.Proofs.Ytfefpbnhpncmlaa.CodB Go.Proofs.Ytfefpbnhpncmlaa.CatL Go.Proofs.Ytfefpbnhpncmlaa.PtrA Go.Proofs.Ytfefpbnhpncmlaa.PtrE Go.Proofs.Ytfefpbnhpncmlaa.PtrF Go.Proofs.Ytfefpbnhpncmlaa.PBaseSigns Go.Proofs.YtfefpbnhpncmlaaW.PrintWords Go.Proofs.YtfefpbnhpncmlaaW.PrintLast Go.Proofs.YtfefpbnhpncmlaaW.PrintMore
set_option linter.unusedVariables false
set_option linter.unusedSimpArgs false

theorem bytes_str (l : List Int) (h : Byt l) : bytesOf (strOfNums l) = l := by
  simp only [bytesOf, strOfNums, List.map_map]
  refine (List.map_congr_left (g := id) fun x hx => ?_).trans (by simp)
  have := h x hx
  simp
  omega
theorem str_iff (l m : List Int) (hl : Byt l) (hm : Byt m) : ((strOfNums l).toList == (strOfNums m).toList) = decide (l = m) := by
  by_cases h : l = m
  · subst h
    simp
  · rw [decide_eq_false h]
    have h2 : strOfNums l ≠ strOfNums m := fun e => h (by rw [← bytes_str l hl, e, bytes_str m hm])
    rw [beq_eq_false_iff_ne]
    intro e
    rw [ByteArray.toList_eq, ByteArray.toList_eq] at e
    exact h2 (ByteArray.ext (Array.toList_inj.1 e))

end Go.Proofs.Ytfefpbnhpncmlaa.CatV
namespace Go.Proofs.Ytfefpbnhpncmlaa.CatX
open Go.RowKit Go.Proofs.Ytfefpbnhpncmlaa.CatV Go.Proofs.Ytfefpbnhpncmlaa.CatW Go.Proofs.Ytfefpbnhpncmlaa.CatU Go.Proofs.Ytfefpbnhpncmlaa.CatT Go.Proofs.Ytfefpbnhpncmlaa.CatR Go.Proofs.Ytfefpbnhpncmlaa.CatK Go.Proofs.Ytfefpbnhpncmlaa.CatM Go.Proofs.Ytfefpbnhpncmlaa.CatN Go.Proofs.Ytfefpbnhpncmlaa.CatO Go.Proofs.Ytfefpbnhpncmlaa.PtrB Go.Proofs.Ytfefpbnhpncmlaa.Agg Go.Proofs.Ytfefpbnhpncmlaa.B8 Go.Proofs.Ytfefpbnhpncmlaa.CodL Go.Proofs.Ytfefpbnhpncmlaa.CodA Go.Proofs.Ytfefpbnhpncmlaa.CodB Go.Proofs.Ytfefpbnhpncmlaa.CatL Go.Proofs.Ytfefpbnhpncmlaa.PtrA Go.Proofs.Ytfefpbnhpncmlaa.PtrE Go.Proofs.Ytfefpbnhpncmlaa.PtrF Go.Proofs.Ytfefpbnhpncmlaa.PBaseSigns Go.Proofs.YtfefpbnhpncmlaaW.PrintWords Go.Proofs.YtfefpbnhpncmlaaW.PrintLast Go.Proofs.YtfefpbnhpncmlaaW.PrintMore
set_option linter.unusedVariables false
set_option linter.unusedSimpArgs false

end Go.Proofs.Ytfefpbnhpncmlaa.CatX
namespace Go.Proofs.Ytfefpbnhpncmlaa.EntL
open Go.RowKit Go.Proofs.Ytfefpbnhpncmlaa.CodL Go.Proofs.Ytfefpbnhpncmlaa.CatL Go.Proofs.Ytfefpbnhpncmlaa.PtrE Go.Proofs.Ytfefpbnhpncmlaa.CatV Go.Proofs.Ytfefpbnhpncmlaa.CatR Go.Proofs.YtfefpbnhpncmlaaW.PrintWords
set_option linter.unusedVariables false
set_option linter.unusedSimpArgs false

def textL (s : ByteArray) : List Int := shortL s.size ++ bytesOf s
theorem bytesOf_byt (s : ByteArray) : Byt (bytesOf s) := fun x hx => by
  unfold bytesOf at hx
  obtain ⟨b, _, rfl⟩ := List.mem_map.1 hx
  have := b.toNat_lt
  omega
theorem textL_byt (s : ByteArray) : Byt (textL s) := (shortL_byt _).append (bytesOf_byt s)
end Go.Proofs.Ytfefpbnhpncmlaa.EntL
namespace Go.Proofs.Ytfefpbnhpncmlaa.EntA
open Go.RowKit Go.Proofs.Ytfefpbnhpncmlaa.EntL Go.Proofs.Ytfefpbnhpncmlaa.CatK Go.Proofs.Ytfefpbnhpncmlaa.PtrB Go.Proofs.Ytfefpbnhpncmlaa.Agg Go.Proofs.Ytfefpbnhpncmlaa.B8 Go.Proofs.Ytfefpbnhpncmlaa.CodL Go.Proofs.Ytfefpbnhpncmlaa.CodA Go.Proofs.Ytfefpbnhpncmlaa.CodB Go.Proofs.Ytfefpbnhpncmlaa.CatL Go.Proofs.Ytfefpbnhpncmlaa.PtrA Go.Proofs.Ytfefpbnhpncmlaa.PtrE Go.Proofs.Ytfefpbnhpncmlaa.PtrF Go.Proofs.Ytfefpbnhpncmlaa.PBaseSigns Go.Proofs.YtfefpbnhpncmlaaW.PrintWords Go.Proofs.YtfefpbnhpncmlaaW.PrintLast Go.Proofs.YtfefpbnhpncmlaaW.PrintMore
set_option linter.unusedVariables false
set_option linter.unusedSimpArgs false

end Go.Proofs.Ytfefpbnhpncmlaa.EntA
namespace Go.Proofs.Ytfefpbnhpncmlaa.EntB
open Go.RowKit Go.Proofs.Ytfefpbnhpncmlaa.EntL Go.Proofs.Ytfefpbnhpncmlaa.EntA Go.Proofs.Ytfefpbnhpncmlaa.CatK Go.Proofs.Ytfefpbnhpncmlaa.PtrB Go.Proofs.Ytfefpbnhpncmlaa.Agg Go.Proofs.Ytfefpbnhpncmlaa.B8 Go.Proofs.Ytfefpbnhpncmlaa.CodL Go.Proofs.Ytfefpbnhpncmlaa.CodA Go.Proofs.Ytfefpbnhpncmlaa.CodB Go.Proofs.Ytfefpbnhpncmlaa.CatL Go.Proofs.Ytfefpbnhpncmlaa.PtrA Go.Proofs.Ytfefpbnhpncmlaa.PtrE Go.Proofs.Ytfefpbnhpncmlaa.PtrF Go.Proofs.Ytfefpbnhpncmlaa.PBaseSigns Go.Proofs.YtfefpbnhpncmlaaW.PrintWords Go.Proofs.YtfefpbnhpncmlaaW.PrintLast Go.Proofs.YtfefpbnhpncmlaaW.PrintMore
set_option linter.unusedVariables false
set_option linter.unusedSimpArgs false

end Go.Proofs.Ytfefpbnhpncmlaa.EntB
namespace Go.Proofs.Ytfefpbnhpncmlaa.EntC
open Go.RowKit Go.Proofs.Ytfefpbnhpncmlaa.EntL Go.Proofs.Ytfefpbnhpncmlaa.EntB Go.Proofs.Ytfefpbnhpncmlaa.CatK Go.Proofs.Ytfefpbnhpncmlaa.CatS Go.Proofs.Ytfefpbnhpncmlaa.RefG Go.Proofs.Ytfefpbnhpncmlaa.PtrB Go.Proofs.Ytfefpbnhpncmlaa.Agg Go.Proofs.Ytfefpbnhpncmlaa.B8 Go.Proofs.Ytfefpbnhpncmlaa.CodL Go.Proofs.Ytfefpbnhpncmlaa.CodA Go.Proofs.Ytfefpbnhpncmlaa.CodB Go.Proofs.Ytfefpbnhpncmlaa.CatL Go.Proofs.Ytfefpbnhpncmlaa.PtrA Go.Proofs.Ytfefpbnhpncmlaa.PtrE Go.Proofs.Ytfefpbnhpncmlaa.PtrF Go.Proofs.Ytfefpbnhpncmlaa.PBaseSigns Go.Proofs.YtfefpbnhpncmlaaW.PrintWords Go.Proofs.YtfefpbnhpncmlaaW.PrintLast Go.Proofs.YtfefpbnhpncmlaaW.PrintMore
set_option linter.unusedVariables false
set_option linter.unusedSimpArgs false

theorem R8_of_nums {w : World} {base : Nat} {v : Value} {n : Nat} {xs : List Int} (hn : n = xs.length) (h : w.ownsRow base 5 1 v n (nums .u8 xs)) : R8 w base v xs := by
  subst hn
  exact Kd.R_of_own h (fun _ _ => trivial)
theorem nums_of_R8 {w : World} {base : Nat} {v : Value} {xs : List Int} (h : R8 w base v xs) : w.ownsRow base 5 1 v xs.length (nums .u8 xs) := Kd.own_of_R h
theorem bytesOf_len (s : ByteArray) : (bytesOf s).length = s.size := bytesOf_length s
theorem str_bytes (s : ByteArray) : strOfNums (bytesOf s) = s := by
  obtain ⟨⟨l⟩⟩ := s
  simp only [strOfNums, bytesOf]
  congr 2
  rw [List.map_map]
  conv => rhs; rw [← List.map_id l]
  exact List.map_congr_left fun b _ => by simp

set_option maxRecDepth 100000 in
set_option maxHeartbeats 400000 in
theorem text_calls (A : Option Addr) (c n : Nat) (l : List Int) (hn : n = l.length) (s : ByteArray) (w : World) (hr : C8 w A n l) (hm : n ≤ 900000) (hs : s.size ≤ 10000) :
    Calls Try.prog 88 #[.slice A n c, .string s] w (Tells w (l ++ textL s)) := by
  subst hn
  have HR := Aside0.mk hr
  clear hr
  have hw : IntKind.u64.wrap (s.size : Int) = (s.size : Int) := wraps_u64 _ (by omega) (by omega)
  have hg := glen_ten (n := s.size) (by omega)
  obtain ⟨L1, hL1⟩ : ∃ L, L = l ++ shortL s.size := ⟨_, rfl⟩
  have HL1 := Aside0.mk hL1
  have hlen : L1.length ≤ 900010 := by rw [hL1, List.length_append]; unfold glen at hg; omega
  clear hL1 hg
  go_enter Try.func88, Try.ntmps88
  go_wp2_with fail
  refine (short_at A c l.length l L1 s.size _ w rfl HL1.out rfl HR.out (by omega) (by omega)).mono ?_
  rintro e w1 ⟨v1, rfl, hr1, hb1⟩
  have H1 := Aside0.mk (And.intro (nums_of_R8 hr1) hb1)
  clear hr1 hb1
  have hs1 : w.heap.size ≤ w1.heap.size := H1.out.2.size
  go_wp2_with (at_builtin; refine print_append_str (w0 := w) w.heap.size rfl (.tmp 9) (.tmp 10) 31 9 5 rfl Try.underlying31 Try.underlying9 info5 v1 L1 s rfl rfl H1.out.1 H1.out.2 hs1 (by omega) ?_; intro v2 w2 ho hb hgr; have H2 := Aside0.mk (And.intro ho hb); clear ho hb hgr)
  go_ret
  refine ⟨_, rfl, ?_, H2.out.2⟩
  have h := R8_of_nums rfl H2.out.1
  rw [HL1.out, List.append_assoc] at h
  exact h
/-- Reading a text: the text, how many bytes it has with its length, and the error's number. -/
def readText (l : List Int) (most : Nat) : ByteArray × Nat × Int :=
  if (readShort l).2.2 ≠ 0 then (⟨#[]⟩, 0, (readShort l).2.2)
  else if (most : Int) < (readShort l).1 then (⟨#[]⟩, 0, 3)
  else if ((l.length - (readShort l).2.1 : Nat) : Int) < (readShort l).1 then (⟨#[]⟩, 0, 10)
  else (strOfNums ((l.drop (readShort l).2.1).take (readShort l).1.toNat), (readShort l).2.1 + (readShort l).1.toNat, 0)
theorem readText_used (l : List Int) (most : Nat) : (readText l most).2.1 ≤ l.length := by
  have := readShort_used l
  unfold readText
  split
  · simp
  split
  · simp
  split
  · simp
  · simp only; omega
theorem readText_size (l : List Int) (most : Nat) : (readText l most).1.size ≤ most := by
  unfold readText
  split
  · simp [ByteArray.size]
  split
  · simp [ByteArray.size]
  split
  · simp [ByteArray.size]
  · simp [strOfNums, ByteArray.size]; omega
theorem readText_textL (s : ByteArray) (most : Nat) (hs : s.size ≤ most) (hm : most ≤ 1000000) (r : List Int) : readText (textL s ++ r) most = (s, (textL s).length, 0) := by
  have e : textL s ++ r = shortL s.size ++ (bytesOf s ++ r) := by simp [textL]
  have h := readShort_shortL s.size (by omega) (bytesOf s ++ r)
  rw [← e] at h
  have hl : (textL s).length = glen s.size + s.size := by rw [textL, List.length_append, bytesOf_len]; rfl
  have hd : (textL s ++ r).drop (glen s.size) = bytesOf s ++ r := by rw [e]; exact List.drop_left' rfl
  unfold readText
  rw [h]
  simp only [ne_eq, not_true_eq_false, if_false, Int.toNat_natCast]
  rw [if_neg (by omega), if_neg (by rw [List.length_append, hl]; omega), hd, List.take_append_of_le_length (by rw [bytesOf_len]; exact Nat.le_refl _), List.take_of_length_le (by rw [bytesOf_len]; exact Nat.le_refl _)]
  rw [str_bytes s, hl]

set_option maxRecDepth 100000 in
set_option maxHeartbeats 1000000 in
theorem readText_calls (A : Option Addr) (c n : Nat) (l : List Int) (hn : n = l.length) (w : World) (hr : C8 w A n l) (hb : Byt l) (hc : n ≤ c) (hm : n ≤ 1000000) :
    Calls Try.prog 110 #[.slice A n c, .int .i64 63] w fun e w' => e = .returned (.tuple #[.string (readText l 63).1, .int .i64 ((readText l 63).2.1 : Int), .int .i64 (readText l 63).2.2]) ∧ w = w' := by
  subst hn
  have HC := Aside0.mk (And.intro hr (And.intro hb hc))
  have hb1 := readShort_bound hb
  have hu := readShort_used l
  obtain ⟨m, hmx⟩ : ∃ m : Nat, (readShort l).1 = (m : Int) := ⟨(readShort l).1.toNat, by omega⟩
  obtain ⟨u, hu1⟩ : ∃ u, u = (readShort l).2.1 := ⟨_, rfl⟩
  obtain ⟨er, her⟩ : ∃ er, er = (readShort l).2.2 := ⟨_, rfl⟩
  obtain ⟨P, hP⟩ : ∃ P : Ending → World → Prop, P = (fun e w' => e = .returned (.tuple #[.string (readText l 63).1, .int .i64 ((readText l 63).2.1 : Int), .int .i64 (readText l 63).2.2]) ∧ w = w') := ⟨_, rfl⟩
  rw [← hP]
  have HP := Aside0.mk hP
  have HX := Aside0.mk (And.intro hmx (And.intro hu1 her))
  rw [hmx] at hb1
  rw [← hu1] at hu
  have H1 : Aside0 (er ≠ 0 → readText l 63 = (⟨#[]⟩, 0, er)) := ⟨fun h => by unfold readText; rw [← her, if_pos h]⟩
  have H2 : Aside0 (er = 0 → 63 < m → readText l 63 = (⟨#[]⟩, 0, 3)) := ⟨fun h h2 => by unfold readText; rw [← her, if_neg (by simp [h]), hmx, if_pos (by omega)]⟩
  have H3 : Aside0 (er = 0 → ¬ 63 < m → l.length - u < m → readText l 63 = (⟨#[]⟩, 0, 10)) := ⟨fun h h2 h3 => by unfold readText; rw [← her, if_neg (by simp [h]), hmx, if_neg (by omega), ← hu1, if_pos (by omega)]⟩
  have H4 : Aside0 (er = 0 → ¬ 63 < m → ¬ l.length - u < m → readText l 63 = (strOfNums ((l.drop u).take m), u + m, 0)) := ⟨fun h h2 h3 => by unfold readText; rw [← her, if_neg (by simp [h]), hmx, if_neg (by omega), ← hu1, if_neg (by omega), Int.toNat_natCast]⟩
  clear hr hb hc hP hmx hu1 her
  go_enter Try.func110, Try.ntmps110
  go_wp2_with fail
  refine (CodC.readShort_calls A c l w HC.out.1 HC.out.2.1 HC.out.2.2 hm).mono ?_
  rintro e w1 ⟨rfl, rfl⟩
  rw [HX.out.1, ← HX.out.2.1, ← HX.out.2.2]
  by_cases he : er = 0
  case neg =>
    have HF := Aside0.mk (H1.out he)
    have hbe : (er == 0) = false := by simp [he]
    have hbe2 : (er != 0) = true := by simp [he]
    clear he
    go_wp2
    go_ret3
    rw [HP.out]
    exact ⟨by rw [HF.out]; rfl, rfl⟩
  by_cases h63 : 63 < m
  · have HF := Aside0.mk (H2.out he h63)
    have hd : (m : Int) > 63 := by omega
    subst he
    go_wp2
    go_ret3
    rw [HP.out]
    exact ⟨by rw [HF.out]; rfl, rfl⟩
  by_cases hlt : l.length - u < m
  · have HF := Aside0.mk (H3.out he h63 hlt)
    have hd : ¬ (m : Int) > 63 := by omega
    have hd3 : decide ((63 : Int) < (m : Int)) = false := decide_eq_false (by omega)
    have hd2 : (m : Int) > (l.length : Int) - (u : Int) := by omega
    have hw : IntKind.u64.wrap ((l.length : Int) - (u : Int)) = (l.length : Int) - (u : Int) := wraps_u64 _ (by omega) (by omega)
    have hw2 : IntKind.i64.wrap ((l.length : Int) - (u : Int)) = (l.length : Int) - (u : Int) := by rw [IntKind.wrap_i64]; omega
    subst he
    go_wp2
    go_ret3
    rw [HP.out]
    exact ⟨by rw [HF.out]; rfl, rfl⟩
  · have HF := Aside0.mk (H4.out he h63 hlt)
    have hd : ¬ (m : Int) > 63 := by omega
    have hd3 : decide ((63 : Int) < (m : Int)) = false := decide_eq_false (by omega)
    have hd2 : ¬ (m : Int) > (l.length : Int) - (u : Int) := by omega
    have hw : IntKind.u64.wrap ((l.length : Int) - (u : Int)) = (l.length : Int) - (u : Int) := wraps_u64 _ (by omega) (by omega)
    have hw2 : IntKind.i64.wrap ((l.length : Int) - (u : Int)) = (l.length : Int) - (u : Int) := by rw [IntKind.wrap_i64]; omega
    have hw3 : wrap64 (m : Int) = (m : Int) := by unfold wrap64; omega
    have hw4 : IntKind.i64.wrap ((u : Int) + (m : Int)) = (u : Int) + (m : Int) := by rw [IntKind.wrap_i64]; omega
    have hlu : u + m ≤ l.length := by omega
    have hcut0 := cut8_mid A l.length c u (u + m) (by omega) hlu HC.out.2.2
    have HD := C8_mid HC.out.1 HC.out.2.2 (show u ≤ u + m by omega) hlu
    generalize (if c = u then A else A.map (·.add u)) = A2 at hcut0 HD
    rw [show u + m - u = m by omega] at hcut0 HD
    have hcut : ∀ W : World, (Instr.slice 31 (.slice A l.length c) (some (.int .i64 (u : Int))) (some (.int .i64 ((u : Int) + (m : Int)))) none).run Try.prog W = .ok (.slice A2 m (c - u)) W := fun W => by
      have := hcut0 W
      rwa [Int.natCast_add] at this
    have hcv : (convert 31 9 (.slice A2 m (c - u))).run Try.prog w = .ok (.string (strOfNums ((l.drop u).take m))) w := by
      have := Kd.C_string (P := Try.prog) (c := c - u) Try.underlying31 Try.underlying5 Try.underlying9 HD
      rw [List.drop_take, show u + m - u = m by omega] at this
      exact this
    generalize strOfNums ((l.drop u).take m) = S at *
    clear hcut0 HD
    subst he
    go_wp2
    go_ret3
    rw [HP.out]
    exact ⟨by rw [HF.out]; simp, rfl⟩

end Go.Proofs.Ytfefpbnhpncmlaa.EntC
namespace Go.Proofs.Ytfefpbnhpncmlaa.StmA
open Go.RowKit Go.Proofs.Ytfefpbnhpncmlaa.EntL Go.Proofs.Ytfefpbnhpncmlaa.EntB Go.Proofs.Ytfefpbnhpncmlaa.CatK Go.Proofs.Ytfefpbnhpncmlaa.CatS Go.Proofs.Ytfefpbnhpncmlaa.RefG Go.Proofs.Ytfefpbnhpncmlaa.PtrB Go.Proofs.Ytfefpbnhpncmlaa.Agg Go.Proofs.Ytfefpbnhpncmlaa.B8 Go.Proofs.Ytfefpbnhpncmlaa.CodL Go.Proofs.Ytfefpbnhpncmlaa.CodA Go.Proofs.Ytfefpbnhpncmlaa.CodB Go.Proofs.Ytfefpbnhpncmlaa.CatL Go.Proofs.Ytfefpbnhpncmlaa.PtrA Go.Proofs.Ytfefpbnhpncmlaa.PtrE Go.Proofs.Ytfefpbnhpncmlaa.PtrF Go.Proofs.Ytfefpbnhpncmlaa.PBaseSigns Go.Proofs.YtfefpbnhpncmlaaW.PrintWords Go.Proofs.YtfefpbnhpncmlaaW.PrintLast Go.Proofs.YtfefpbnhpncmlaaW.PrintMore Go.Proofs.Ytfefpbnhpncmlaa.EntC
set_option linter.unusedVariables false
set_option linter.unusedSimpArgs false

set_option maxRecDepth 100000 in
set_option maxHeartbeats 1000000 in
theorem readText_160 (A : Option Addr) (c n : Nat) (l : List Int) (hn : n = l.length) (w : World) (hr : C8 w A n l) (hb : Byt l) (hc : n ≤ c) (hm : n ≤ 1000000) :
    Calls Try.prog 110 #[.slice A n c, .int .i64 160] w fun e w' => e = .returned (.tuple #[.string (readText l 160).1, .int .i64 ((readText l 160).2.1 : Int), .int .i64 (readText l 160).2.2]) ∧ w = w' := by
  subst hn
  have HC := Aside0.mk (And.intro hr (And.intro hb hc))
  have hb1 := readShort_bound hb
  have hu := readShort_used l
  obtain ⟨m, hmx⟩ : ∃ m : Nat, (readShort l).1 = (m : Int) := ⟨(readShort l).1.toNat, by omega⟩
  obtain ⟨u, hu1⟩ : ∃ u, u = (readShort l).2.1 := ⟨_, rfl⟩
  obtain ⟨er, her⟩ : ∃ er, er = (readShort l).2.2 := ⟨_, rfl⟩
  obtain ⟨P, hP⟩ : ∃ P : Ending → World → Prop, P = (fun e w' => e = .returned (.tuple #[.string (readText l 160).1, .int .i64 ((readText l 160).2.1 : Int), .int .i64 (readText l 160).2.2]) ∧ w = w') := ⟨_, rfl⟩
  rw [← hP]
  have HP := Aside0.mk hP
  have HX := Aside0.mk (And.intro hmx (And.intro hu1 her))
  rw [hmx] at hb1
  rw [← hu1] at hu
  have H1 : Aside0 (er ≠ 0 → readText l 160 = (⟨#[]⟩, 0, er)) := ⟨fun h => by unfold readText; rw [← her, if_pos h]⟩
  have H2 : Aside0 (er = 0 → 160 < m → readText l 160 = (⟨#[]⟩, 0, 3)) := ⟨fun h h2 => by unfold readText; rw [← her, if_neg (by simp [h]), hmx, if_pos (by omega)]⟩
  have H3 : Aside0 (er = 0 → ¬ 160 < m → l.length - u < m → readText l 160 = (⟨#[]⟩, 0, 10)) := ⟨fun h h2 h3 => by unfold readText; rw [← her, if_neg (by simp [h]), hmx, if_neg (by omega), ← hu1, if_pos (by omega)]⟩
  have H4 : Aside0 (er = 0 → ¬ 160 < m → ¬ l.length - u < m → readText l 160 = (strOfNums ((l.drop u).take m), u + m, 0)) := ⟨fun h h2 h3 => by unfold readText; rw [← her, if_neg (by simp [h]), hmx, if_neg (by omega), ← hu1, if_neg (by omega), Int.toNat_natCast]⟩
  clear hr hb hc hP hmx hu1 her
  go_enter Try.func110, Try.ntmps110
  go_wp2_with fail
  refine (CodC.readShort_calls A c l w HC.out.1 HC.out.2.1 HC.out.2.2 hm).mono ?_
  rintro e w1 ⟨rfl, rfl⟩
  rw [HX.out.1, ← HX.out.2.1, ← HX.out.2.2]
  by_cases he : er = 0
  case neg =>
    have HF := Aside0.mk (H1.out he)
    have hbe : (er == 0) = false := by simp [he]
    have hbe2 : (er != 0) = true := by simp [he]
    clear he
    go_wp2
    go_ret3
    rw [HP.out]
    exact ⟨by rw [HF.out]; rfl, rfl⟩
  by_cases h63 : 160 < m
  · have HF := Aside0.mk (H2.out he h63)
    have hd : (m : Int) > 160 := by omega
    subst he
    go_wp2
    go_ret3
    rw [HP.out]
    exact ⟨by rw [HF.out]; rfl, rfl⟩
  by_cases hlt : l.length - u < m
  · have HF := Aside0.mk (H3.out he h63 hlt)
    have hd : ¬ (m : Int) > 160 := by omega
    have hd3 : decide ((160 : Int) < (m : Int)) = false := decide_eq_false (by omega)
    have hd2 : (m : Int) > (l.length : Int) - (u : Int) := by omega
    have hw : IntKind.u64.wrap ((l.length : Int) - (u : Int)) = (l.length : Int) - (u : Int) := wraps_u64 _ (by omega) (by omega)
    have hw2 : IntKind.i64.wrap ((l.length : Int) - (u : Int)) = (l.length : Int) - (u : Int) := by rw [IntKind.wrap_i64]; omega
    subst he
    go_wp2
    go_ret3
    rw [HP.out]
    exact ⟨by rw [HF.out]; rfl, rfl⟩
  · have HF := Aside0.mk (H4.out he h63 hlt)
    have hd : ¬ (m : Int) > 160 := by omega
    have hd3 : decide ((160 : Int) < (m : Int)) = false := decide_eq_false (by omega)
    have hd2 : ¬ (m : Int) > (l.length : Int) - (u : Int) := by omega
    have hw : IntKind.u64.wrap ((l.length : Int) - (u : Int)) = (l.length : Int) - (u : Int) := wraps_u64 _ (by omega) (by omega)
    have hw2 : IntKind.i64.wrap ((l.length : Int) - (u : Int)) = (l.length : Int) - (u : Int) := by rw [IntKind.wrap_i64]; omega
    have hw3 : wrap64 (m : Int) = (m : Int) := by unfold wrap64; omega
    have hw4 : IntKind.i64.wrap ((u : Int) + (m : Int)) = (u : Int) + (m : Int) := by rw [IntKind.wrap_i64]; omega
    have hlu : u + m ≤ l.length := by omega
    have hcut0 := cut8_mid A l.length c u (u + m) (by omega) hlu HC.out.2.2
    have HD := C8_mid HC.out.1 HC.out.2.2 (show u ≤ u + m by omega) hlu
    generalize (if c = u then A else A.map (·.add u)) = A2 at hcut0 HD
    rw [show u + m - u = m by omega] at hcut0 HD
    have hcut : ∀ W : World, (Instr.slice 31 (.slice A l.length c) (some (.int .i64 (u : Int))) (some (.int .i64 ((u : Int) + (m : Int)))) none).run Try.prog W = .ok (.slice A2 m (c - u)) W := fun W => by
      have := hcut0 W
      rwa [Int.natCast_add] at this
    have hcv : (convert 31 9 (.slice A2 m (c - u))).run Try.prog w = .ok (.string (strOfNums ((l.drop u).take m))) w := by
      have := Kd.C_string (P := Try.prog) (c := c - u) Try.underlying31 Try.underlying5 Try.underlying9 HD
      rw [List.drop_take, show u + m - u = m by omega] at this
      exact this
    generalize strOfNums ((l.drop u).take m) = S at *
    clear hcut0 HD
    subst he
    go_wp2
    go_ret3
    rw [HP.out]
    exact ⟨by rw [HF.out]; simp, rfl⟩


set_option maxRecDepth 100000 in
set_option maxHeartbeats 1000000 in
theorem readText_400 (A : Option Addr) (c n : Nat) (l : List Int) (hn : n = l.length) (w : World) (hr : C8 w A n l) (hb : Byt l) (hc : n ≤ c) (hm : n ≤ 1000000) :
    Calls Try.prog 110 #[.slice A n c, .int .i64 400] w fun e w' => e = .returned (.tuple #[.string (readText l 400).1, .int .i64 ((readText l 400).2.1 : Int), .int .i64 (readText l 400).2.2]) ∧ w = w' := by
  subst hn
  have HC := Aside0.mk (And.intro hr (And.intro hb hc))
  have hb1 := readShort_bound hb
  have hu := readShort_used l
  obtain ⟨m, hmx⟩ : ∃ m : Nat, (readShort l).1 = (m : Int) := ⟨(readShort l).1.toNat, by omega⟩
  obtain ⟨u, hu1⟩ : ∃ u, u = (readShort l).2.1 := ⟨_, rfl⟩
  obtain ⟨er, her⟩ : ∃ er, er = (readShort l).2.2 := ⟨_, rfl⟩
  obtain ⟨P, hP⟩ : ∃ P : Ending → World → Prop, P = (fun e w' => e = .returned (.tuple #[.string (readText l 400).1, .int .i64 ((readText l 400).2.1 : Int), .int .i64 (readText l 400).2.2]) ∧ w = w') := ⟨_, rfl⟩
  rw [← hP]
  have HP := Aside0.mk hP
  have HX := Aside0.mk (And.intro hmx (And.intro hu1 her))
  rw [hmx] at hb1
  rw [← hu1] at hu
  have H1 : Aside0 (er ≠ 0 → readText l 400 = (⟨#[]⟩, 0, er)) := ⟨fun h => by unfold readText; rw [← her, if_pos h]⟩
  have H2 : Aside0 (er = 0 → 400 < m → readText l 400 = (⟨#[]⟩, 0, 3)) := ⟨fun h h2 => by unfold readText; rw [← her, if_neg (by simp [h]), hmx, if_pos (by omega)]⟩
  have H3 : Aside0 (er = 0 → ¬ 400 < m → l.length - u < m → readText l 400 = (⟨#[]⟩, 0, 10)) := ⟨fun h h2 h3 => by unfold readText; rw [← her, if_neg (by simp [h]), hmx, if_neg (by omega), ← hu1, if_pos (by omega)]⟩
  have H4 : Aside0 (er = 0 → ¬ 400 < m → ¬ l.length - u < m → readText l 400 = (strOfNums ((l.drop u).take m), u + m, 0)) := ⟨fun h h2 h3 => by unfold readText; rw [← her, if_neg (by simp [h]), hmx, if_neg (by omega), ← hu1, if_neg (by omega), Int.toNat_natCast]⟩
  clear hr hb hc hP hmx hu1 her
  go_enter Try.func110, Try.ntmps110
  go_wp2_with fail
  refine (CodC.readShort_calls A c l w HC.out.1 HC.out.2.1 HC.out.2.2 hm).mono ?_
  rintro e w1 ⟨rfl, rfl⟩
  rw [HX.out.1, ← HX.out.2.1, ← HX.out.2.2]
  by_cases he : er = 0
  case neg =>
    have HF := Aside0.mk (H1.out he)
    have hbe : (er == 0) = false := by simp [he]
    have hbe2 : (er != 0) = true := by simp [he]
    clear he
    go_wp2
    go_ret3
    rw [HP.out]
    exact ⟨by rw [HF.out]; rfl, rfl⟩
  by_cases h63 : 400 < m
  · have HF := Aside0.mk (H2.out he h63)
    have hd : (m : Int) > 400 := by omega
    subst he
    go_wp2
    go_ret3
    rw [HP.out]
    exact ⟨by rw [HF.out]; rfl, rfl⟩
  by_cases hlt : l.length - u < m
  · have HF := Aside0.mk (H3.out he h63 hlt)
    have hd : ¬ (m : Int) > 400 := by omega
    have hd3 : decide ((400 : Int) < (m : Int)) = false := decide_eq_false (by omega)
    have hd2 : (m : Int) > (l.length : Int) - (u : Int) := by omega
    have hw : IntKind.u64.wrap ((l.length : Int) - (u : Int)) = (l.length : Int) - (u : Int) := wraps_u64 _ (by omega) (by omega)
    have hw2 : IntKind.i64.wrap ((l.length : Int) - (u : Int)) = (l.length : Int) - (u : Int) := by rw [IntKind.wrap_i64]; omega
    subst he
    go_wp2
    go_ret3
    rw [HP.out]
    exact ⟨by rw [HF.out]; rfl, rfl⟩
  · have HF := Aside0.mk (H4.out he h63 hlt)
    have hd : ¬ (m : Int) > 400 := by omega
    have hd3 : decide ((400 : Int) < (m : Int)) = false := decide_eq_false (by omega)
    have hd2 : ¬ (m : Int) > (l.length : Int) - (u : Int) := by omega
    have hw : IntKind.u64.wrap ((l.length : Int) - (u : Int)) = (l.length : Int) - (u : Int) := wraps_u64 _ (by omega) (by omega)
    have hw2 : IntKind.i64.wrap ((l.length : Int) - (u : Int)) = (l.length : Int) - (u : Int) := by rw [IntKind.wrap_i64]; omega
    have hw3 : wrap64 (m : Int) = (m : Int) := by unfold wrap64; omega
    have hw4 : IntKind.i64.wrap ((u : Int) + (m : Int)) = (u : Int) + (m : Int) := by rw [IntKind.wrap_i64]; omega
    have hlu : u + m ≤ l.length := by omega
    have hcut0 := cut8_mid A l.length c u (u + m) (by omega) hlu HC.out.2.2
    have HD := C8_mid HC.out.1 HC.out.2.2 (show u ≤ u + m by omega) hlu
    generalize (if c = u then A else A.map (·.add u)) = A2 at hcut0 HD
    rw [show u + m - u = m by omega] at hcut0 HD
    have hcut : ∀ W : World, (Instr.slice 31 (.slice A l.length c) (some (.int .i64 (u : Int))) (some (.int .i64 ((u : Int) + (m : Int)))) none).run Try.prog W = .ok (.slice A2 m (c - u)) W := fun W => by
      have := hcut0 W
      rwa [Int.natCast_add] at this
    have hcv : (convert 31 9 (.slice A2 m (c - u))).run Try.prog w = .ok (.string (strOfNums ((l.drop u).take m))) w := by
      have := Kd.C_string (P := Try.prog) (c := c - u) Try.underlying31 Try.underlying5 Try.underlying9 HD
      rw [List.drop_take, show u + m - u = m by omega] at this
      exact this
    generalize strOfNums ((l.drop u).take m) = S at *
    clear hcut0 HD
    subst he
    go_wp2
    go_ret3
    rw [HP.out]
    exact ⟨by rw [HF.out]; simp, rfl⟩


set_option maxRecDepth 100000 in
set_option maxHeartbeats 1000000 in
theorem readText_65536 (A : Option Addr) (c n : Nat) (l : List Int) (hn : n = l.length) (w : World) (hr : C8 w A n l) (hb : Byt l) (hc : n ≤ c) (hm : n ≤ 1000000) :
    Calls Try.prog 110 #[.slice A n c, .int .i64 65536] w fun e w' => e = .returned (.tuple #[.string (readText l 65536).1, .int .i64 ((readText l 65536).2.1 : Int), .int .i64 (readText l 65536).2.2]) ∧ w = w' := by
  subst hn
  have HC := Aside0.mk (And.intro hr (And.intro hb hc))
  have hb1 := readShort_bound hb
  have hu := readShort_used l
  obtain ⟨m, hmx⟩ : ∃ m : Nat, (readShort l).1 = (m : Int) := ⟨(readShort l).1.toNat, by omega⟩
  obtain ⟨u, hu1⟩ : ∃ u, u = (readShort l).2.1 := ⟨_, rfl⟩
  obtain ⟨er, her⟩ : ∃ er, er = (readShort l).2.2 := ⟨_, rfl⟩
  obtain ⟨P, hP⟩ : ∃ P : Ending → World → Prop, P = (fun e w' => e = .returned (.tuple #[.string (readText l 65536).1, .int .i64 ((readText l 65536).2.1 : Int), .int .i64 (readText l 65536).2.2]) ∧ w = w') := ⟨_, rfl⟩
  rw [← hP]
  have HP := Aside0.mk hP
  have HX := Aside0.mk (And.intro hmx (And.intro hu1 her))
  rw [hmx] at hb1
  rw [← hu1] at hu
  have H1 : Aside0 (er ≠ 0 → readText l 65536 = (⟨#[]⟩, 0, er)) := ⟨fun h => by unfold readText; rw [← her, if_pos h]⟩
  have H2 : Aside0 (er = 0 → 65536 < m → readText l 65536 = (⟨#[]⟩, 0, 3)) := ⟨fun h h2 => by unfold readText; rw [← her, if_neg (by simp [h]), hmx, if_pos (by omega)]⟩
  have H3 : Aside0 (er = 0 → ¬ 65536 < m → l.length - u < m → readText l 65536 = (⟨#[]⟩, 0, 10)) := ⟨fun h h2 h3 => by unfold readText; rw [← her, if_neg (by simp [h]), hmx, if_neg (by omega), ← hu1, if_pos (by omega)]⟩
  have H4 : Aside0 (er = 0 → ¬ 65536 < m → ¬ l.length - u < m → readText l 65536 = (strOfNums ((l.drop u).take m), u + m, 0)) := ⟨fun h h2 h3 => by unfold readText; rw [← her, if_neg (by simp [h]), hmx, if_neg (by omega), ← hu1, if_neg (by omega), Int.toNat_natCast]⟩
  clear hr hb hc hP hmx hu1 her
  go_enter Try.func110, Try.ntmps110
  go_wp2_with fail
  refine (CodC.readShort_calls A c l w HC.out.1 HC.out.2.1 HC.out.2.2 hm).mono ?_
  rintro e w1 ⟨rfl, rfl⟩
  rw [HX.out.1, ← HX.out.2.1, ← HX.out.2.2]
  by_cases he : er = 0
  case neg =>
    have HF := Aside0.mk (H1.out he)
    have hbe : (er == 0) = false := by simp [he]
    have hbe2 : (er != 0) = true := by simp [he]
    clear he
    go_wp2
    go_ret3
    rw [HP.out]
    exact ⟨by rw [HF.out]; rfl, rfl⟩
  by_cases h63 : 65536 < m
  · have HF := Aside0.mk (H2.out he h63)
    have hd : (m : Int) > 65536 := by omega
    subst he
    go_wp2
    go_ret3
    rw [HP.out]
    exact ⟨by rw [HF.out]; rfl, rfl⟩
  by_cases hlt : l.length - u < m
  · have HF := Aside0.mk (H3.out he h63 hlt)
    have hd : ¬ (m : Int) > 65536 := by omega
    have hd3 : decide ((65536 : Int) < (m : Int)) = false := decide_eq_false (by omega)
    have hd2 : (m : Int) > (l.length : Int) - (u : Int) := by omega
    have hw : IntKind.u64.wrap ((l.length : Int) - (u : Int)) = (l.length : Int) - (u : Int) := wraps_u64 _ (by omega) (by omega)
    have hw2 : IntKind.i64.wrap ((l.length : Int) - (u : Int)) = (l.length : Int) - (u : Int) := by rw [IntKind.wrap_i64]; omega
    subst he
    go_wp2
    go_ret3
    rw [HP.out]
    exact ⟨by rw [HF.out]; rfl, rfl⟩
  · have HF := Aside0.mk (H4.out he h63 hlt)
    have hd : ¬ (m : Int) > 65536 := by omega
    have hd3 : decide ((65536 : Int) < (m : Int)) = false := decide_eq_false (by omega)
    have hd2 : ¬ (m : Int) > (l.length : Int) - (u : Int) := by omega
    have hw : IntKind.u64.wrap ((l.length : Int) - (u : Int)) = (l.length : Int) - (u : Int) := wraps_u64 _ (by omega) (by omega)
    have hw2 : IntKind.i64.wrap ((l.length : Int) - (u : Int)) = (l.length : Int) - (u : Int) := by rw [IntKind.wrap_i64]; omega
    have hw3 : wrap64 (m : Int) = (m : Int) := by unfold wrap64; omega
    have hw4 : IntKind.i64.wrap ((u : Int) + (m : Int)) = (u : Int) + (m : Int) := by rw [IntKind.wrap_i64]; omega
    have hlu : u + m ≤ l.length := by omega
    have hcut0 := cut8_mid A l.length c u (u + m) (by omega) hlu HC.out.2.2
    have HD := C8_mid HC.out.1 HC.out.2.2 (show u ≤ u + m by omega) hlu
    generalize (if c = u then A else A.map (·.add u)) = A2 at hcut0 HD
    rw [show u + m - u = m by omega] at hcut0 HD
    have hcut : ∀ W : World, (Instr.slice 31 (.slice A l.length c) (some (.int .i64 (u : Int))) (some (.int .i64 ((u : Int) + (m : Int)))) none).run Try.prog W = .ok (.slice A2 m (c - u)) W := fun W => by
      have := hcut0 W
      rwa [Int.natCast_add] at this
    have hcv : (convert 31 9 (.slice A2 m (c - u))).run Try.prog w = .ok (.string (strOfNums ((l.drop u).take m))) w := by
      have := Kd.C_string (P := Try.prog) (c := c - u) Try.underlying31 Try.underlying5 Try.underlying9 HD
      rw [List.drop_take, show u + m - u = m by omega] at this
      exact this
    generalize strOfNums ((l.drop u).take m) = S at *
    clear hcut0 HD
    subst he
    go_wp2
    go_ret3
    rw [HP.out]
    exact ⟨by rw [HF.out]; simp, rfl⟩


end Go.Proofs.Ytfefpbnhpncmlaa.StmA
namespace Go.Proofs.Ytfefpbnhpncmlaa.CatY
open Go.RowKit Go.Proofs.Ytfefpbnhpncmlaa.CatV Go.Proofs.Ytfefpbnhpncmlaa.CatW Go.Proofs.Ytfefpbnhpncmlaa.CatK Go.Proofs.Ytfefpbnhpncmlaa.CatM Go.Proofs.Ytfefpbnhpncmlaa.CatN Go.Proofs.Ytfefpbnhpncmlaa.CatO Go.Proofs.Ytfefpbnhpncmlaa.CatX Go.Proofs.Ytfefpbnhpncmlaa.PtrB Go.Proofs.Ytfefpbnhpncmlaa.Agg Go.Proofs.Ytfefpbnhpncmlaa.B8 Go.Proofs.Ytfefpbnhpncmlaa.CodL Go.Proofs.Ytfefpbnhpncmlaa.CodA Go.Proofs.Ytfefpbnhpncmlaa.CodB Go.Proofs.Ytfefpbnhpncmlaa.CatL Go.Proofs.Ytfefpbnhpncmlaa.PtrA Go.Proofs.Ytfefpbnhpncmlaa.PtrE Go.Proofs.Ytfefpbnhpncmlaa.PtrF Go.Proofs.Ytfefpbnhpncmlaa.PBaseSigns Go.Proofs.YtfefpbnhpncmlaaW.PrintWords Go.Proofs.YtfefpbnhpncmlaaW.PrintLast Go.Proofs.YtfefpbnhpncmlaaW.PrintMore
set_option linter.unusedVariables false
set_option linter.unusedSimpArgs false

theorem C8_mark (w : World) (c : List Int) (t : TypeId) (fr : Nat × Nat) (hc : c.length ≤ 9223372036854775807) : C8 (w.alloc (.cells (c.map (Value.int .u8)).toArray t fr)) (some ⟨w.heap.size, 0, none⟩) c.length c := by
  refine ⟨rfl, hc, fun _ => ⟨_, rfl, fun j p hj => ⟨[.int .u8 p], rfl, rfl, fun i u hu => ?_⟩⟩⟩
  match i with
  | 0 =>
    simp only [show (Kd.int .u8).sz = 1 from rfl, Nat.mul_one, Nat.add_zero]
    rw [show (⟨w.heap.size, 0, none⟩ : Addr).add j = ⟨w.heap.size, j, none⟩ from by rw [add_at]; simp]
    rw [World.cell?_alloc_mark]
    simp only [List.getElem?_cons_zero, Option.some.injEq] at hu
    subst hu
    simp [hj]
  | i + 1 => simp at hu
end Go.Proofs.Ytfefpbnhpncmlaa.CatY
namespace Go.Proofs.Ytfefpbnhpncmlaa.EntD
open Go.RowKit Go.Proofs.Ytfefpbnhpncmlaa.EntL Go.Proofs.Ytfefpbnhpncmlaa.EntB Go.Proofs.Ytfefpbnhpncmlaa.EntC Go.Proofs.Ytfefpbnhpncmlaa.CatK Go.Proofs.Ytfefpbnhpncmlaa.CatS Go.Proofs.Ytfefpbnhpncmlaa.CatY Go.Proofs.Ytfefpbnhpncmlaa.RefG Go.Proofs.Ytfefpbnhpncmlaa.PtrB Go.Proofs.Ytfefpbnhpncmlaa.PtrG Go.Proofs.Ytfefpbnhpncmlaa.Agg Go.Proofs.Ytfefpbnhpncmlaa.B8 Go.Proofs.Ytfefpbnhpncmlaa.CodL Go.Proofs.Ytfefpbnhpncmlaa.CodA Go.Proofs.Ytfefpbnhpncmlaa.CodB Go.Proofs.Ytfefpbnhpncmlaa.CatL Go.Proofs.Ytfefpbnhpncmlaa.PtrA Go.Proofs.Ytfefpbnhpncmlaa.PtrE Go.Proofs.Ytfefpbnhpncmlaa.PtrF Go.Proofs.Ytfefpbnhpncmlaa.PBaseSigns Go.Proofs.YtfefpbnhpncmlaaW.PrintWords Go.Proofs.YtfefpbnhpncmlaaW.PrintLast Go.Proofs.YtfefpbnhpncmlaaW.PrintMore
set_option linter.unusedVariables false
set_option linter.unusedSimpArgs false

end Go.Proofs.Ytfefpbnhpncmlaa.EntD
namespace Go.Proofs.Ytfefpbnhpncmlaa.EntE
open Go.RowKit Go.Proofs.Ytfefpbnhpncmlaa.EntL Go.Proofs.Ytfefpbnhpncmlaa.EntB Go.Proofs.Ytfefpbnhpncmlaa.EntC Go.Proofs.Ytfefpbnhpncmlaa.EntD Go.Proofs.Ytfefpbnhpncmlaa.CatK Go.Proofs.Ytfefpbnhpncmlaa.CatS Go.Proofs.Ytfefpbnhpncmlaa.CatY Go.Proofs.Ytfefpbnhpncmlaa.RefG Go.Proofs.Ytfefpbnhpncmlaa.PtrB Go.Proofs.Ytfefpbnhpncmlaa.PtrG Go.Proofs.Ytfefpbnhpncmlaa.Agg Go.Proofs.Ytfefpbnhpncmlaa.B8 Go.Proofs.Ytfefpbnhpncmlaa.CodL Go.Proofs.Ytfefpbnhpncmlaa.CodA Go.Proofs.Ytfefpbnhpncmlaa.CodB Go.Proofs.Ytfefpbnhpncmlaa.CatL Go.Proofs.Ytfefpbnhpncmlaa.PtrA Go.Proofs.Ytfefpbnhpncmlaa.PtrE Go.Proofs.Ytfefpbnhpncmlaa.PtrF Go.Proofs.Ytfefpbnhpncmlaa.PBaseSigns Go.Proofs.YtfefpbnhpncmlaaW.PrintWords Go.Proofs.YtfefpbnhpncmlaaW.PrintLast Go.Proofs.YtfefpbnhpncmlaaW.PrintMore
set_option linter.unusedVariables false
set_option linter.unusedSimpArgs false

section
variable {ops : Array Oper} {o : Oper} {rest : List Oper} {a : Act} {w : World} {Q : Exit → Act → World → Prop}
end

end Go.Proofs.Ytfefpbnhpncmlaa.EntE
namespace Go.Proofs.Ytfefpbnhpncmlaa.EntF
open Go.RowKit Go.Proofs.Ytfefpbnhpncmlaa.EntL Go.Proofs.Ytfefpbnhpncmlaa.EntB Go.Proofs.Ytfefpbnhpncmlaa.EntC Go.Proofs.Ytfefpbnhpncmlaa.EntD Go.Proofs.Ytfefpbnhpncmlaa.EntE Go.Proofs.Ytfefpbnhpncmlaa.CatR Go.Proofs.Ytfefpbnhpncmlaa.CatT Go.Proofs.Ytfefpbnhpncmlaa.CatU Go.Proofs.Ytfefpbnhpncmlaa.CatK Go.Proofs.Ytfefpbnhpncmlaa.CatS Go.Proofs.Ytfefpbnhpncmlaa.CatY Go.Proofs.Ytfefpbnhpncmlaa.RefG Go.Proofs.Ytfefpbnhpncmlaa.PtrB Go.Proofs.Ytfefpbnhpncmlaa.PtrG Go.Proofs.Ytfefpbnhpncmlaa.Agg Go.Proofs.Ytfefpbnhpncmlaa.B8 Go.Proofs.Ytfefpbnhpncmlaa.CodL Go.Proofs.Ytfefpbnhpncmlaa.CodA Go.Proofs.Ytfefpbnhpncmlaa.CodB Go.Proofs.Ytfefpbnhpncmlaa.CatL Go.Proofs.Ytfefpbnhpncmlaa.PtrA Go.Proofs.Ytfefpbnhpncmlaa.PtrE Go.Proofs.Ytfefpbnhpncmlaa.PtrF Go.Proofs.Ytfefpbnhpncmlaa.PBaseSigns Go.Proofs.YtfefpbnhpncmlaaW.PrintWords Go.Proofs.YtfefpbnhpncmlaaW.PrintLast Go.Proofs.YtfefpbnhpncmlaaW.PrintMore
set_option linter.unusedVariables false
set_option linter.unusedSimpArgs false

end Go.Proofs.Ytfefpbnhpncmlaa.EntF
namespace Go.Proofs.Ytfefpbnhpncmlaa.EntG
open Go.RowKit Go.Proofs.Ytfefpbnhpncmlaa.EntL Go.Proofs.Ytfefpbnhpncmlaa.EntB Go.Proofs.Ytfefpbnhpncmlaa.EntC Go.Proofs.Ytfefpbnhpncmlaa.EntD Go.Proofs.Ytfefpbnhpncmlaa.EntE Go.Proofs.Ytfefpbnhpncmlaa.EntF Go.Proofs.Ytfefpbnhpncmlaa.CatR Go.Proofs.Ytfefpbnhpncmlaa.CatT Go.Proofs.Ytfefpbnhpncmlaa.CatU Go.Proofs.Ytfefpbnhpncmlaa.CatK Go.Proofs.Ytfefpbnhpncmlaa.CatS Go.Proofs.Ytfefpbnhpncmlaa.CatY Go.Proofs.Ytfefpbnhpncmlaa.RefG Go.Proofs.Ytfefpbnhpncmlaa.PtrB Go.Proofs.Ytfefpbnhpncmlaa.PtrG Go.Proofs.Ytfefpbnhpncmlaa.Agg Go.Proofs.Ytfefpbnhpncmlaa.B8 Go.Proofs.Ytfefpbnhpncmlaa.CodL Go.Proofs.Ytfefpbnhpncmlaa.CodA Go.Proofs.Ytfefpbnhpncmlaa.CodB Go.Proofs.Ytfefpbnhpncmlaa.CatL Go.Proofs.Ytfefpbnhpncmlaa.PtrA Go.Proofs.Ytfefpbnhpncmlaa.PtrE Go.Proofs.Ytfefpbnhpncmlaa.PtrF Go.Proofs.Ytfefpbnhpncmlaa.PBaseSigns Go.Proofs.YtfefpbnhpncmlaaW.PrintWords Go.Proofs.YtfefpbnhpncmlaaW.PrintLast Go.Proofs.YtfefpbnhpncmlaaW.PrintMore
set_option linter.unusedVariables false
set_option linter.unusedSimpArgs false

end Go.Proofs.Ytfefpbnhpncmlaa.EntG
namespace Go.Proofs.Ytfefpbnhpncmlaa.StmB
open Go.RowKit Go.Proofs.Ytfefpbnhpncmlaa.EntL Go.Proofs.Ytfefpbnhpncmlaa.EntB Go.Proofs.Ytfefpbnhpncmlaa.EntC Go.Proofs.Ytfefpbnhpncmlaa.EntD Go.Proofs.Ytfefpbnhpncmlaa.EntE Go.Proofs.Ytfefpbnhpncmlaa.EntF Go.Proofs.Ytfefpbnhpncmlaa.CatR Go.Proofs.Ytfefpbnhpncmlaa.CatT Go.Proofs.Ytfefpbnhpncmlaa.CatU Go.Proofs.Ytfefpbnhpncmlaa.CatK Go.Proofs.Ytfefpbnhpncmlaa.CatS Go.Proofs.Ytfefpbnhpncmlaa.CatY Go.Proofs.Ytfefpbnhpncmlaa.RefG Go.Proofs.Ytfefpbnhpncmlaa.PtrB Go.Proofs.Ytfefpbnhpncmlaa.PtrG Go.Proofs.Ytfefpbnhpncmlaa.Agg Go.Proofs.Ytfefpbnhpncmlaa.B8 Go.Proofs.Ytfefpbnhpncmlaa.CodL Go.Proofs.Ytfefpbnhpncmlaa.CodA Go.Proofs.Ytfefpbnhpncmlaa.CodB Go.Proofs.Ytfefpbnhpncmlaa.CatL Go.Proofs.Ytfefpbnhpncmlaa.PtrA Go.Proofs.Ytfefpbnhpncmlaa.PtrE Go.Proofs.Ytfefpbnhpncmlaa.PtrF Go.Proofs.Ytfefpbnhpncmlaa.PBaseSigns Go.Proofs.YtfefpbnhpncmlaaW.PrintWords Go.Proofs.YtfefpbnhpncmlaaW.PrintLast Go.Proofs.YtfefpbnhpncmlaaW.PrintMore Go.Proofs.Ytfefpbnhpncmlaa.EntG Go.Proofs.Ytfefpbnhpncmlaa.StmA
set_option linter.unusedVariables false
set_option linter.unusedSimpArgs false

/-- The reader's error. -/
def errV (bad : Bool) : Value := if bad then .iface 41 (.int .i64 11) else .nilIface
/-- Where the stream's reader stands: what is left, and whether something was wrong. -/
structure RB (B : World) (g : Nat) (l : List Int) (bad : Bool) (W : World) : Prop where
  below : Below B.heap.size B W
  blk : ∃ A c, C8 B A l.length l ∧ l.length ≤ c ∧ W.heap[g]? = some (.cells #[.slice A l.length c, errV bad] 149 (0, 0))
  g : B.heap.size ≤ g
  byt : Byt l
  len : l.length ≤ 100000

theorem RB.keep {B : World} {g : Nat} {l : List Int} {bad : Bool} {W W1 : World} (h : RB B g l bad W) (hb : Below B.heap.size B W1) (hg : W1.heap[g]? = W.heap[g]?) : RB B g l bad W1 := by
  obtain ⟨A, c, h1, h2, h3⟩ := h.blk
  exact ⟨hb, ⟨A, c, h1, h2, hg.trans h3⟩, h.g, h.byt, h.len⟩
theorem RB.on {B : World} {g : Nat} {l : List Int} {bad : Bool} {W W1 : World} (h : RB B g l bad W) (hb : Below W.heap.size W W1) : RB B g l bad W1 := by
  obtain ⟨A, c, h1, h2, h3⟩ := h.blk
  exact h.keep (below_then h.below h.below.size hb) (hb.block g (blk_lt h3))
theorem RB.lt {B : World} {g : Nat} {l : List Int} {bad : Bool} {W : World} (h : RB B g l bad W) : g < W.heap.size := by
  obtain ⟨A, c, h1, h2, h3⟩ := h.blk
  exact blk_lt h3

set_option maxRecDepth 100000 in
theorem fail_calls (g : Nat) (x y : Value) (w : World) (hg : w.heap[g]? = some (.cells #[x, y] 149 (0, 0))) :
    Calls Try.prog 121 #[.pointer (some ⟨g, 0, none⟩)] w fun e w' => e = .returned (.tuple #[]) ∧ w' = w.setCell ⟨g, 1, none⟩ (.iface 41 (.int .i64 11)) := by
  have hc1 : w.cell? ⟨g, 1, none⟩ = some y := by rw [cell_of_row _ _ 1 _ 149 (0, 0) hg]; rfl
  have hf1 := frozen_of_row w g 1 _ 149 hg
  have hcon : Try.prog.concrete 41 = true := by kernel_rfl
  clear hg
  go_enter Try.func121, Try.ntmps121
  go_wp2
  go_end0
  exact ⟨rfl, rfl⟩

theorem conv_str (s : ByteArray) (hs : s.size ≤ 9223372036854775807) (w : World) : ∃ A c W', (convert 9 31 (.string s)).run Try.prog w = .ok (.slice A s.size c) W' ∧ A = some ⟨w.heap.size, 0, none⟩ ∧ w.heap.size < W'.heap.size ∧ s.size ≤ c ∧ C8 W' A s.size (bytesOf s) ∧ Below w.heap.size w W' :=
  ⟨_, _, _, Lib.run_convert_string_bytes w 9 31 5 s Try.underlying9 Try.underlying31 Try.underlying5, rfl, by rw [Lib.bytesWorld_size]; omega, grownCap_ge _ _ _ _, Kd.C_of_reads (d := 0) (bytes_reads w 5 s hs), Go.Joins.below_bytesWorld w.heap.size w 5 s (Nat.le_refl _)⟩

/-- What the call of text leaves. -/
def TellsT (B : World) (g M : Nat) (l : List Int) (bad : Bool) (w : World) (e : Ending) (w' : World) : Prop :=
  ∃ A c, (∀ ad, A = some ad → w.heap.size ≤ ad.block ∧ ad.block < w'.heap.size) ∧ e = .returned (.slice A (readText l M).1.size c) ∧ C8 w' A (readText l M).1.size (bytesOf (readText l M).1) ∧ (readText l M).1.size ≤ c ∧ RB B g (l.drop (readText l M).2.1) (bad || decide ((readText l M).2.2 ≠ 0)) w' ∧ KeepBut w w' g none
set_option maxRecDepth 100000 in
set_option maxHeartbeats 1000000 in
theorem textT_calls (M : Nat) (hM5 : M ≤ 65536) (hM : ∀ (A : Option Addr) (c n : Nat) (l : List Int) (hn : n = l.length) (w : World) (hr : C8 w A n l) (hb : Byt l) (hc : n ≤ c) (hm : n ≤ 1000000), Calls Try.prog 110 #[.slice A n c, .int .i64 (M : Int)] w fun e w' => e = .returned (.tuple #[.string (readText l M).1, .int .i64 ((readText l M).2.1 : Int), .int .i64 (readText l M).2.2]) ∧ w = w')
    (B : World) (g : Nat) (l : List Int) (bad : Bool) (w : World) (h : RB B g l bad w) :
    Calls Try.prog 96 #[.pointer (some ⟨g, 0, none⟩), .int .i64 (M : Int)] w (TellsT B g M l bad w) := by
  have H := Aside0.mk h
  have HM := Aside0.mk hM
  obtain ⟨A, c, hC, hlc, hgk⟩ := h.blk
  have HC := Aside0.mk (And.intro hC hlc)
  have HGK := Aside0.mk hgk
  have hc0 : w.cell? ⟨g, 0, none⟩ = some (.slice A l.length c) := by rw [cell_of_row _ _ 0 _ 149 (0, 0) hgk]; rfl
  have hf0 := frozen_of_row w g 0 _ 149 hgk
  obtain ⟨P, hP⟩ : ∃ P : Ending → World → Prop, P = TellsT B g M l bad w := ⟨_, rfl⟩
  rw [← hP]
  have HP := Aside0.mk hP
  have hu := readText_used l M
  obtain ⟨s, hs⟩ : ∃ s, s = (readText l M).1 := ⟨_, rfl⟩
  obtain ⟨u, hu1⟩ : ∃ u, u = (readText l M).2.1 := ⟨_, rfl⟩
  obtain ⟨er, her⟩ : ∃ er, er = (readText l M).2.2 := ⟨_, rfl⟩
  have HX := Aside0.mk (And.intro hs (And.intro hu1 her))
  rw [← hu1] at hu
  have hcut := cut8_from A l.length c u hu
  have HD := Aside0.mk (C8_drop hC hlc hu)
  generalize (if c = u then A else A.map (·.add u)) = A2 at hcut HD
  have hbb : Aside0 (∀ (b2 : Bool) (W0 W' : World) (A' : Option Addr) (c' : Nat), b2 = (bad || decide (er ≠ 0)) → W0.heap[g]? = some (.cells #[.slice A2 (l.length - u) (c - u), errV b2] 149 (0, 0)) → Below B.heap.size B W0 → KeepBut w W0 g none → Below W0.heap.size W0 W' → C8 W' A' s.size (bytesOf s) → s.size ≤ c' → (∀ ad, A' = some ad → w.heap.size ≤ ad.block ∧ ad.block < W'.heap.size) → P (.returned (.slice A' s.size c')) W') := ⟨fun b2 W0 W' A' c' hb2 hg0 hB0 hk0 hb1 hC1 hc1 hf1 => by
    rw [hP]
    refine ⟨A', c', hf1, by rw [hs], by rw [← hs]; exact hC1, by rw [← hs]; exact hc1, ⟨below_then hB0 hB0.size hb1, ⟨A2, c - u, ?_, ?_, ?_⟩, h.g, h.byt.drop _, ?_⟩, hk0.trans (KeepBut.of_below hb1 g none) (.inl rfl)⟩
    · rw [← hu1, List.length_drop]; exact HD.out
    · rw [← hu1, List.length_drop]; omega
    · rw [hb1.block g (blk_lt hg0), hg0, ← hu1, List.length_drop, ← her, hb2]
    · rw [List.length_drop]; have := h.len; omega⟩
  have hsz : s.size ≤ M := by rw [hs]; exact readText_size l M
  clear h hM hC hlc hgk hP hs hu1 her
  go_enter Try.func96, Try.ntmps96
  go_wp2_with fail
  refine (HM.out A c l.length l rfl w (Kd.C_below HC.out.1 H.out.below) H.out.byt HC.out.2 (by have := H.out.len; omega)).mono ?_
  rintro e w1 ⟨rfl, rfl⟩
  rw [← HX.out.1, ← HX.out.2.1, ← HX.out.2.2]
  by_cases he : er = 0
  · have HE := Aside0.mk (hbb.out bad)
    obtain ⟨A', c', W', hcv, ha1, szB, hc1, hC1, hb1⟩ := conv_str s (by omega) (w.setCell ⟨g, 0, none⟩ (.slice A2 (l.length - u) (c - u)))
    have HQ := Aside0.mk (And.intro hc1 (And.intro hC1 hb1))
    have HZ := Aside0.mk (show bad = (bad || decide (er ≠ 0)) by simp [he])
    subst he
    have HFR := Aside0.mk (show ∀ ad, A' = some ad → w.heap.size ≤ ad.block ∧ ad.block < W'.heap.size from fun ad h => by subst ha1; cases h; exact ⟨by simp, szB⟩)
    clear hc1 hC1 hb1 hbb ha1 szB
    go_wp2
    exact HE.out _ _ _ _ HZ.out (heap_setCell_same _ _ _ _ _ _ HGK.out) (H.out.below.setCell H.out.g _) ((KeepBut.refl w g none).set_ 0 _) HQ.out.2.2 HQ.out.2.1 HQ.out.1 HFR.out
  · have hbe : (er == 0) = false := by simp [he]
    have hbe2 : (er != 0) = true := by simp [he]
    have HE := Aside0.mk (hbb.out true)
    have HZ := Aside0.mk (show true = (bad || decide (er ≠ 0)) by simp [he])
    clear he hbb
    go_wp2_with fail
    refine (fail_calls g _ _ w HGK.out).mono ?_
    rintro e w1 ⟨rfl, rfl⟩
    have G1 := Aside0.mk (show (w.setCell ⟨g, 1, none⟩ (.iface 41 (.int .i64 11))).heap[g]? = some (.cells #[.slice A l.length c, .iface 41 (.int .i64 11)] 149 (0, 0)) from heap_setCell_same w g 1 _ _ (.iface 41 (.int .i64 11)) HGK.out)
    have B1 := Aside0.mk (H.out.below.setCell (p := ⟨g, 1, none⟩) H.out.g (.iface 41 (.int .i64 11)))
    have K1 := Aside0.mk ((KeepBut.refl w g none).set_ 1 (.iface 41 (.int .i64 11)))
    generalize w.setCell ⟨g, 1, none⟩ (.iface 41 (.int .i64 11)) = w1 at *
    clear hc0 hf0
    have hc0 : w1.cell? ⟨g, 0, none⟩ = some (.slice A l.length c) := by rw [cell_of_row _ _ 0 _ 149 (0, 0) G1.out]; rfl
    have hf0 := frozen_of_row w1 g 0 _ 149 G1.out
    obtain ⟨A', c', W', hcv, ha1, szB, hc1, hC1, hb1⟩ := conv_str s (by omega) (w1.setCell ⟨g, 0, none⟩ (.slice A2 (l.length - u) (c - u)))
    have HQ := Aside0.mk (And.intro hc1 (And.intro hC1 hb1))
    have HFR := Aside0.mk (show ∀ ad, A' = some ad → w.heap.size ≤ ad.block ∧ ad.block < W'.heap.size from fun ad h => by subst ha1; cases h; exact ⟨by simpa using K1.out.1, szB⟩)
    clear hc1 hC1 hb1 ha1 szB
    go_wp2
    exact HE.out _ _ _ _ HZ.out (heap_setCell_same _ _ _ _ _ _ G1.out) (B1.out.setCell H.out.g _) (K1.out.set_ 0 _) HQ.out.2.2 HQ.out.2.1 HQ.out.1 HFR.out
end Go.Proofs.Ytfefpbnhpncmlaa.StmB
namespace Go.Proofs.Ytfefpbnhpncmlaa.StmC
open Go.RowKit Go.Proofs.Ytfefpbnhpncmlaa.EntL Go.Proofs.Ytfefpbnhpncmlaa.EntB Go.Proofs.Ytfefpbnhpncmlaa.EntC Go.Proofs.Ytfefpbnhpncmlaa.EntD Go.Proofs.Ytfefpbnhpncmlaa.EntE Go.Proofs.Ytfefpbnhpncmlaa.EntF Go.Proofs.Ytfefpbnhpncmlaa.CatR Go.Proofs.Ytfefpbnhpncmlaa.CatT Go.Proofs.Ytfefpbnhpncmlaa.CatU Go.Proofs.Ytfefpbnhpncmlaa.CatK Go.Proofs.Ytfefpbnhpncmlaa.CatS Go.Proofs.Ytfefpbnhpncmlaa.CatY Go.Proofs.Ytfefpbnhpncmlaa.RefG Go.Proofs.Ytfefpbnhpncmlaa.PtrB Go.Proofs.Ytfefpbnhpncmlaa.PtrG Go.Proofs.Ytfefpbnhpncmlaa.Agg Go.Proofs.Ytfefpbnhpncmlaa.B8 Go.Proofs.Ytfefpbnhpncmlaa.CodL Go.Proofs.Ytfefpbnhpncmlaa.CodA Go.Proofs.Ytfefpbnhpncmlaa.CodB Go.Proofs.Ytfefpbnhpncmlaa.CatL Go.Proofs.Ytfefpbnhpncmlaa.PtrA Go.Proofs.Ytfefpbnhpncmlaa.PtrE Go.Proofs.Ytfefpbnhpncmlaa.PtrF Go.Proofs.Ytfefpbnhpncmlaa.PBaseSigns Go.Proofs.YtfefpbnhpncmlaaW.PrintWords Go.Proofs.YtfefpbnhpncmlaaW.PrintLast Go.Proofs.YtfefpbnhpncmlaaW.PrintMore Go.Proofs.Ytfefpbnhpncmlaa.EntG Go.Proofs.Ytfefpbnhpncmlaa.StmA Go.Proofs.Ytfefpbnhpncmlaa.StmB
set_option linter.unusedVariables false
set_option linter.unusedSimpArgs false

/-- A number is none, or too great. -/
def badN (l : List Int) (M : Nat) : Bool := decide ((readShort l).2.2 ≠ 0 ∨ (M : Int) < (readShort l).1)
def TellsN (B : World) (g M : Nat) (l : List Int) (bad : Bool) (w : World) (e : Ending) (w' : World) : Prop :=
  e = .returned (.int .i64 (if badN l M then 0 else (readShort l).1)) ∧ RB B g (if badN l M then l else l.drop (readShort l).2.1) (bad || badN l M) w' ∧ KeepBut w w' g none
set_option maxRecDepth 100000 in
set_option maxHeartbeats 1000000 in
theorem numT_calls (M : Nat) (hM5 : M ≤ 65536) (B : World) (g : Nat) (l : List Int) (bad : Bool) (w : World) (h : RB B g l bad w) :
    Calls Try.prog 97 #[.pointer (some ⟨g, 0, none⟩), .int .i64 (M : Int)] w (TellsN B g M l bad w) := by
  have H := Aside0.mk h
  obtain ⟨A, c, hC, hlc, hgk⟩ := h.blk
  have HC := Aside0.mk (And.intro hC hlc)
  have HGK := Aside0.mk hgk
  have hc0 : w.cell? ⟨g, 0, none⟩ = some (.slice A l.length c) := by rw [cell_of_row _ _ 0 _ 149 (0, 0) hgk]; rfl
  have hf0 := frozen_of_row w g 0 _ 149 hgk
  obtain ⟨P, hP⟩ : ∃ P : Ending → World → Prop, P = TellsN B g M l bad w := ⟨_, rfl⟩
  rw [← hP]
  have HP := Aside0.mk hP
  have hu := readShort_used l
  have hb1 := readShort_bound h.byt
  obtain ⟨m, hmx⟩ : ∃ m : Nat, (readShort l).1 = (m : Int) := ⟨(readShort l).1.toNat, by omega⟩
  obtain ⟨u, hu1⟩ : ∃ u, u = (readShort l).2.1 := ⟨_, rfl⟩
  obtain ⟨er, her⟩ : ∃ er, er = (readShort l).2.2 := ⟨_, rfl⟩
  have HX := Aside0.mk (And.intro hmx (And.intro hu1 her))
  rw [← hu1] at hu
  rw [hmx] at hb1
  have hcut := cut8_from A l.length c u hu
  have HD := Aside0.mk (C8_drop hC hlc hu)
  generalize (if c = u then A else A.map (·.add u)) = A2 at hcut HD
  have hgood : Aside0 (badN l M = false → P (.returned (.int .i64 (m : Int))) (w.setCell ⟨g, 0, none⟩ (.slice A2 (l.length - u) (c - u)))) := ⟨fun hb => by
    rw [hP]
    unfold TellsN
    rw [hb, hmx, ← hu1]
    simp only [Bool.or_false, Bool.false_eq_true, if_false]
    refine ⟨trivial, ⟨h.below.setCell h.g _, ⟨A2, c - u, ?_, ?_, ?_⟩, h.g, h.byt.drop _, ?_⟩, (KeepBut.refl w g none).set_ 0 _⟩
    · rw [List.length_drop]; exact HD.out
    · rw [List.length_drop]; omega
    · rw [heap_setCell_same _ _ _ _ _ _ hgk, List.length_drop]; rfl
    · rw [List.length_drop]; have := h.len; omega⟩
  have hbad : Aside0 (badN l M = true → P (.returned (.int .i64 0)) (w.setCell ⟨g, 1, none⟩ (.iface 41 (.int .i64 11)))) := ⟨fun hb => by
    rw [hP]
    unfold TellsN
    rw [hb]
    simp only [Bool.or_true, if_true]
    exact ⟨trivial, ⟨h.below.setCell h.g _, ⟨A, c, hC, hlc, heap_setCell_same _ _ _ _ _ _ hgk⟩, h.g, h.byt, h.len⟩, (KeepBut.refl w g none).set_ 1 _⟩⟩
  have hwM : IntKind.u64.wrap (M : Int) = (M : Int) := wraps_u64 _ (by omega) (by omega)
  clear h hC hlc hgk hP hmx hu1 her
  go_enter Try.func97, Try.ntmps97
  go_wp2_with fail
  refine (CodC.readShort_calls A c l w (Kd.C_below HC.out.1 H.out.below) H.out.byt HC.out.2 (by have := H.out.len; omega)).mono ?_
  rintro e w1 ⟨rfl, rfl⟩
  rw [HX.out.1, ← HX.out.2.1, ← HX.out.2.2]
  by_cases he : er = 0
  · by_cases hmm : M < m
    · have HE := Aside0.mk (hbad.out (by unfold badN; rw [HX.out.1]; exact decide_eq_true (.inr (by omega))))
      subst he
      clear hgood hbad
      go_wp2_with fail
      refine (fail_calls g _ _ w HGK.out).mono ?_
      rintro e w1 ⟨rfl, rfl⟩
      go_wp2
      exact HE.out
    · have HE := Aside0.mk (hgood.out (by unfold badN; rw [HX.out.1, ← HX.out.2.2]; exact decide_eq_false (by omega)))
      have hd3 : decide ((M : Int) < (m : Int)) = false := decide_eq_false (by omega)
      have hw3 : wrap64 (m : Int) = (m : Int) := by unfold wrap64; omega
      subst he
      clear hgood hbad
      go_wp2
      exact HE.out
  · have HE := Aside0.mk (hbad.out (by unfold badN; rw [← HX.out.2.2]; exact decide_eq_true (.inl he)))
    have hbe : (er == 0) = false := by simp [he]
    have hbe2 : (er != 0) = true := by simp [he]
    clear hgood hbad he
    go_wp2_with fail
    refine (fail_calls g _ _ w HGK.out).mono ?_
    rintro e w1 ⟨rfl, rfl⟩
    go_wp2
    exact HE.out
end Go.Proofs.Ytfefpbnhpncmlaa.StmC
namespace Go.Proofs.Ytfefpbnhpncmlaa.CrcL
open Go.Proofs.Ytfefpbnhpncmlaa.CodL
set_option linter.unusedVariables false

abbrev poly : Nat := 2197175160
/-- One bit on. -/
def bitN (s : Nat) : Nat := if s % 2 = 1 then s / 2 ^^^ poly else s / 2
theorem bitN_lt {s : Nat} (h : s < 4294967296) : bitN s < 4294967296 := by
  unfold bitN
  split
  · exact Nat.xor_lt_two_pow (n := 32) (by omega) (by decide)
  · omega
theorem xor_mod2 (a b : Nat) : (a ^^^ b) % 2 = (a % 2 + b % 2) % 2 := by
  have h := Nat.xor_mod_two_pow (a := a) (b := b) (n := 1)
  rw [show (2 : Nat) ^ 1 = 2 from rfl] at h
  rw [h]
  rcases Nat.mod_two_eq_zero_or_one a with h1 | h1 <;> rcases Nat.mod_two_eq_zero_or_one b with h2 | h2 <;> rw [h1, h2] <;> decide
theorem xor_div2 (a b : Nat) : (a ^^^ b) / 2 = a / 2 ^^^ b / 2 := by
  apply Nat.eq_of_testBit_eq
  intro i
  rw [← Nat.testBit_succ, Nat.testBit_xor, Nat.testBit_xor, Nat.testBit_succ, Nat.testBit_succ]
/-- It is linear. -/
theorem bitN_xor (a b : Nat) : bitN (a ^^^ b) = bitN a ^^^ bitN b := by
  unfold bitN
  rw [xor_mod2, xor_div2]
  generalize a / 2 = x
  generalize b / 2 = y
  rcases Nat.mod_two_eq_zero_or_one a with h1 | h1 <;> rcases Nat.mod_two_eq_zero_or_one b with h2 | h2 <;> rw [h1, h2]
  · rfl
  · show x ^^^ y ^^^ poly = x ^^^ (y ^^^ poly)
    rw [Nat.xor_assoc]
  · show x ^^^ y ^^^ poly = x ^^^ poly ^^^ y
    rw [Nat.xor_assoc, Nat.xor_assoc, Nat.xor_comm y]
  · show x ^^^ y = x ^^^ poly ^^^ (y ^^^ poly)
    rw [Nat.xor_comm y poly, Nat.xor_assoc, ← Nat.xor_assoc poly poly, Nat.xor_self, Nat.zero_xor]
theorem bitN_two (q : Nat) : bitN (2 * q) = q := by unfold bitN; rw [if_neg (by omega)]; omega
def tab : List Nat := [0x00000000, 0x105ec76f, 0x20bd8ede, 0x30e349b1, 0x417b1dbc, 0x5125dad3, 0x61c69362, 0x7198540d,
  0x82f63b78, 0x92a8fc17, 0xa24bb5a6, 0xb21572c9, 0xc38d26c4, 0xd3d3e1ab, 0xe330a81a, 0xf36e6f75]
theorem tab_lt (r : Nat) : tab.getD r 0 < 4294967296 := by
  by_cases h : r < 16
  · have : ∀ r, r < 16 → tab.getD r 0 < 4294967296 := by decide +kernel
    exact this r h
  · rw [List.getD_eq_getElem?_getD, List.getElem?_eq_none (by rw [show tab.length = 16 from rfl]; omega)]; decide
/-- Four bits on, by the table. -/
def halfN (s : Nat) : Nat := s / 16 ^^^ tab.getD (s % 16) 0
theorem halfN_lt {s : Nat} (h : s < 4294967296) : halfN s < 4294967296 := Nat.xor_lt_two_pow (n := 32) (by omega) (tab_lt _)
theorem split16 (s : Nat) : s = (16 * (s / 16)) ^^^ (s % 16) := by
  apply Nat.eq_of_testBit_eq
  intro i
  rw [Nat.testBit_xor, show 16 = 2 ^ 4 from rfl, Nat.testBit_two_pow_mul, Nat.testBit_div_two_pow, Nat.testBit_mod_two_pow]
  by_cases h : 4 ≤ i
  · have : ¬ i < 4 := by omega
    simp [h, this]
  · have : i < 4 := by omega
    simp [h, this]
theorem four_half (s : Nat) : bitN (bitN (bitN (bitN s))) = halfN s := by
  have e := split16 s
  have h4 : ∀ q, bitN (bitN (bitN (bitN (16 * q)))) = q := fun q => by
    rw [show 16 * q = 2 * (2 * (2 * (2 * q))) from by omega, bitN_two, bitN_two, bitN_two, bitN_two]
  have hr : ∀ r, r < 16 → bitN (bitN (bitN (bitN r))) = tab.getD r 0 := by decide +kernel
  have : bitN (bitN (bitN (bitN ((16 * (s / 16)) ^^^ (s % 16))))) = s / 16 ^^^ tab.getD (s % 16) 0 := by
    simp only [bitN_xor]
    rw [h4, hr _ (Nat.mod_lt _ (by decide))]
  rw [← e] at this
  exact this
def eightN (s : Nat) : Nat := halfN (halfN s)
theorem eightN_lt {s : Nat} (h : s < 4294967296) : eightN s < 4294967296 := halfN_lt (halfN_lt h)
/-- n bits on. -/
def bitsN : Nat → Nat → Nat
  | 0, s => s
  | n + 1, s => bitsN n (bitN s)
theorem eight_bits (s : Nat) : bitsN 8 s = eightN s := by
  unfold eightN
  rw [← four_half, ← four_half]
  rfl
/-- One byte on. -/
def stepN (s : Nat) (c : Int) : Nat := eightN (s ^^^ c.toNat)
theorem xor_byte_lt {s : Nat} (h : s < 4294967296) {c : Int} (hc : c < 256) : s ^^^ c.toNat < 4294967296 := Nat.xor_lt_two_pow (n := 32) (by omega) (by omega)
theorem stepN_lt {s : Nat} (h : s < 4294967296) {c : Int} (hc : c < 256) : stepN s c < 4294967296 := eightN_lt (xor_byte_lt h hc)
def crcN (s : Nat) (l : List Int) : Nat := l.foldl stepN s
theorem crcN_lt {s : Nat} (h : s < 4294967296) {l : List Int} (hb : Byt l) : crcN s l < 4294967296 := by
  unfold crcN
  induction l generalizing s with
  | nil => exact h
  | cons c l ih => exact ih (stepN_lt h (hb c (by simp)).2) (fun x hx => hb x (by simp [hx]))
theorem crcN_snoc (s : Nat) (l : List Int) (c : Int) : crcN s (l ++ [c]) = stepN (crcN s l) c := by unfold crcN; simp
/-- The sum. -/
def sumN (l : List Int) : Nat := 4294967295 - crcN 4294967295 l
theorem sumN_lt (l : List Int) : sumN l < 4294967296 := by unfold sumN; omega
end Go.Proofs.Ytfefpbnhpncmlaa.CrcL
namespace Go.Proofs.Ytfefpbnhpncmlaa.CrcA
open Go.RowKit Go.Proofs.Ytfefpbnhpncmlaa.B8 Go.Proofs.Ytfefpbnhpncmlaa.CodL Go.Proofs.Ytfefpbnhpncmlaa.CodA Go.Proofs.Ytfefpbnhpncmlaa.CrcL Go.Proofs.Ytfefpbnhpncmlaa.PBaseSigns Go.Proofs.YtfefpbnhpncmlaaW.PrintWords Go.Proofs.YtfefpbnhpncmlaaW.PrintLast Go.Proofs.YtfefpbnhpncmlaaW.PrintMore
set_option linter.unusedVariables false
set_option linter.unusedSimpArgs false

end Go.Proofs.Ytfefpbnhpncmlaa.CrcA
namespace Go.Proofs.Ytfefpbnhpncmlaa.CrcB
open Go.RowKit Go.Proofs.Ytfefpbnhpncmlaa.B8 Go.Proofs.Ytfefpbnhpncmlaa.CodL Go.Proofs.Ytfefpbnhpncmlaa.CodA Go.Proofs.Ytfefpbnhpncmlaa.CodB Go.Proofs.Ytfefpbnhpncmlaa.CrcL Go.Proofs.Ytfefpbnhpncmlaa.CrcA Go.Proofs.Ytfefpbnhpncmlaa.PBaseSigns Go.Proofs.YtfefpbnhpncmlaaW.PrintWords Go.Proofs.YtfefpbnhpncmlaaW.PrintLast Go.Proofs.YtfefpbnhpncmlaaW.PrintMore
set_option linter.unusedVariables false
set_option linter.unusedSimpArgs false

/-- A byte of a list. -/
theorem byte_at {l : List Int} (hb : Byt l) {j : Nat} (hj : j < l.length) : ∃ q : Nat, q < 256 ∧ l.getD j 0 = (q : Int) ∧ l.take (j + 1) = l.take j ++ [(q : Int)] := by
  have h := hb l[j] (List.getElem_mem hj)
  obtain ⟨q, hq⟩ := Int.eq_ofNat_of_zero_le h.1
  refine ⟨q, by omega, ?_, ?_⟩
  · rw [List.getD_eq_getElem?_getD, List.getElem?_eq_getElem hj]; exact hq
  · rw [List.take_add_one, List.getElem?_eq_getElem hj, hq]; rfl

end Go.Proofs.Ytfefpbnhpncmlaa.CrcB
namespace Go.Proofs.Ytfefpbnhpncmlaa.CrcC
open Go.RowKit Go.Proofs.Ytfefpbnhpncmlaa.B8 Go.Proofs.Ytfefpbnhpncmlaa.Agg Go.Proofs.Ytfefpbnhpncmlaa.CodL Go.Proofs.Ytfefpbnhpncmlaa.CodA Go.Proofs.Ytfefpbnhpncmlaa.CodB Go.Proofs.Ytfefpbnhpncmlaa.CrcL Go.Proofs.Ytfefpbnhpncmlaa.CrcA Go.Proofs.Ytfefpbnhpncmlaa.CrcB Go.Proofs.Ytfefpbnhpncmlaa.PBaseSigns Go.Proofs.YtfefpbnhpncmlaaW.PrintWords Go.Proofs.YtfefpbnhpncmlaaW.PrintLast Go.Proofs.YtfefpbnhpncmlaaW.PrintMore
set_option linter.unusedVariables false
set_option linter.unusedSimpArgs false

theorem res_c {P : Program} {fn : Func} {w : World} {g : Nat} {t ty p : Nat} {cs : Array Value} {fr : Nat × Nat} {d : TypeDesc} (tmps : Array Value) (h : fn.results = #[.cell p ty]) (hp : tmps.getD p undef = .pointer (some ⟨g, 0, none⟩)) (hg : w.heap[g]? = some (.cells cs t fr))
    (hu : P.underlying ty = some d) (hd : (match d with | .struct _ | .array _ _ => true | _ => false) = true) (hi : (P.info? ty).map (·.size) = some cs.size) :
    (results fn tmps).run P w = .ok (.agg cs) w := by
  have hp' : tmps[p]?.getD undef = .pointer (some ⟨g, 0, none⟩) := by simpa using hp
  simp [results, h, hp', asAddr, run_loadVar_row w g t ty cs fr d hg hu hd hi]
theorem u187 : Try.prog.underlying 187 = some (.array 16 53) := by kernel_rfl
theorem i187 : (Try.prog.info? 187).map (·.size) = some 16 := by kernel_rfl
abbrev T187 : Array Value := #[.int .u32 0, .int .u32 0x105ec76f, .int .u32 0x20bd8ede, .int .u32 0x30e349b1, .int .u32 0x417b1dbc, .int .u32 0x5125dad3, .int .u32 0x61c69362, .int .u32 0x7198540d, .int .u32 0x82f63b78, .int .u32 0x92a8fc17, .int .u32 0xa24bb5a6, .int .u32 0xb21572c9, .int .u32 0xc38d26c4, .int .u32 0xd3d3e1ab, .int .u32 0xe330a81a, .int .u32 0xf36e6f75]
theorem T_at (r : Nat) (h : r < 16) : T187[r]? = some (.int .u32 (tab.getD r 0 : Int)) := by
  have : ∀ r, r < 16 → T187[r]? = some (.int .u32 (tab.getD r 0 : Int)) := by
    intro r h
    match r, h with
    | 0, _ | 1, _ | 2, _ | 3, _ | 4, _ | 5, _ | 6, _ | 7, _ | 8, _ | 9, _ | 10, _ | 11, _ | 12, _ | 13, _ | 14, _ | 15, _ => rfl
    | n + 16, h => omega
  exact this r h
set_option maxRecDepth 100000 in
theorem halves_calls (w : World) : Calls Try.prog 131 #[] w fun e w' => e = .returned (.agg T187) ∧ Below w.heap.size w w' := by
  obtain ⟨P, hP⟩ : ∃ P : Ending → World → Prop, P = (fun e w' => e = .returned (.agg T187) ∧ Below w.heap.size w w') := ⟨_, rfl⟩
  rw [← hP]
  have HP := Aside0.mk hP
  clear hP
  go_enter Try.func131, Try.ntmps131
  go_wp2
  refine bodyPost_ret (res_c (p := 0) _ rfl rfl (heap_new _ _) u187 rfl i187) rfl ?_
  rw [HP.out]
  exact ⟨rfl, below_alloc (Below.refl _ _) _⟩
theorem bits_xor_u32_nat (a b : Nat) (ha : a < 4294967296) (hb : b < 4294967296) : bits .xor .u32 (a : Int) (b : Int) = ((a ^^^ b : Nat) : Int) := by
  have hx : a ^^^ b < 2 ^ 32 := Nat.xor_lt_two_pow (by omega) (by omega)
  have h1 : (BitVec.ofInt 32 (a : Int)).toNat = a := by
    rw [BitVec.ofInt_natCast, BitVec.toNat_ofNat]; exact Nat.mod_eq_of_lt (by omega)
  have h2 : (BitVec.ofInt 32 (b : Int)).toNat = b := by
    rw [BitVec.ofInt_natCast, BitVec.toNat_ofNat]; exact Nat.mod_eq_of_lt (by omega)
  show IntKind.u32.wrap ((BitVec.ofInt 32 (a : Int) ^^^ BitVec.ofInt 32 (b : Int)).toNat : Int) = _
  rw [BitVec.toNat_xor, h1, h2, IntKind.wrap_u32]
  omega
theorem bits_not (a : Nat) (ha : a < 4294967296) : bits .xor .u32 IntKind.u32.max (a : Int) = 4294967295 - (a : Int) := by
  have h1 : BitVec.ofInt 32 IntKind.u32.max = BitVec.allOnes 32 := by decide
  have h2 : (BitVec.ofInt 32 (a : Int)).toNat = a := by
    rw [BitVec.ofInt_natCast, BitVec.toNat_ofNat]; exact Nat.mod_eq_of_lt (by omega)
  show IntKind.u32.wrap ((BitVec.ofInt 32 IntKind.u32.max ^^^ BitVec.ofInt 32 (a : Int)).toNat : Int) = _
  rw [h1, BitVec.allOnes_xor, BitVec.toNat_not, h2, IntKind.wrap_u32]
  omega
theorem bits_low (a : Nat) (ha : a < 4294967296) : bits .and .u32 (a : Int) 15 = ((a % 16 : Nat) : Int) := by
  have h := bits_mask .u32 32 (by decide) (fun n h0 h1 => by rw [IntKind.wrap_u32]; omega) 4 (by decide) (a : Int) (by omega) (by omega)
  simpa using h
set_option maxRecDepth 100000 in
theorem half_calls (g gt s : Nat) (hs : s < 4294967296) (w : World) (hg : w.heap[g]? = some (.cells #[.int .u32 (s : Int)] 53 (0, 0))) (ht : w.heap[gt]? = some (.cells T187 187 (0, 0))) (hne : g ≠ gt) :
    Calls Try.prog 132 #[.pointer (some ⟨g, 0, none⟩), .pointer (some ⟨gt, 0, none⟩)] w fun e w' => e = .returned (.tuple #[]) ∧ w'.heap[g]? = some (.cells #[.int .u32 (halfN s : Int)] 53 (0, 0)) ∧ KeepBut w w' g none ∧ ∀ B : World, Below B.heap.size B w → B.heap.size ≤ g → Below B.heap.size B w' := by
  obtain ⟨P, hP⟩ : ∃ P : Ending → World → Prop, P = (fun e w' => e = .returned (.tuple #[]) ∧ w'.heap[g]? = some (.cells #[.int .u32 (halfN s : Int)] 53 (0, 0)) ∧ KeepBut w w' g none ∧ ∀ B : World, Below B.heap.size B w → B.heap.size ≤ g → Below B.heap.size B w') := ⟨_, rfl⟩
  rw [← hP]
  have HP := Aside0.mk hP
  have HG := Aside0.mk (And.intro hg ht)
  obtain ⟨r, hr⟩ : ∃ r, r = s % 16 := ⟨_, rfl⟩
  obtain ⟨u, hu⟩ : ∃ u, u = s / 16 := ⟨_, rfl⟩
  obtain ⟨y, hy⟩ : ∃ y, y = tab.getD r 0 := ⟨_, rfl⟩
  have b1 := bits_low s hs
  have b2 := bits_xor_u32_nat u y (by omega) (by rw [hy]; exact tab_lt _)
  rw [← hr] at b1
  have hr16 : r < 16 := by omega
  have hsh : (s : Int) / 16 = (u : Int) := by omega
  obtain ⟨z, hz⟩ : ∃ z, z = u ^^^ y := ⟨_, rfl⟩
  rw [← hz] at b2
  have HY := Aside0.mk (show z = halfN s by rw [hz, hu, hy, hr]; rfl)
  have HT := Aside0.mk (show T187[r]? = some (.int .u32 (y : Int)) by rw [hy]; exact T_at r hr16)
  clear hP hg ht hr hu hy hz
  go_enter Try.func132, Try.ntmps132
  refine wp_region_held_drew (S := fun _ => True) (by kernel_rfl) trivial (fun hW => ?_)
  have HB := Aside0.mk (below_drew (Below.refl w.heap.size w))
  generalize w.drew = W at *
  have HG1 := Aside0.mk (And.intro (blk_below HG.out.1 HB.out) (blk_below HG.out.2 HB.out))
  have x0 : W.cell? ⟨g, 0, none⟩ = some (.int .u32 (s : Int)) := by rw [cell_of_row _ _ 0 _ 53 (0, 0) HG1.out.1]; rfl
  have x1 : W.cell? ⟨gt, r, none⟩ = some (.int .u32 (y : Int)) := by rw [cell_of_row _ _ r _ 187 (0, 0) HG1.out.2]; exact HT.out
  have x2 : W.frozen? ⟨g, 0, none⟩ = false := frozen_of_row W g 0 _ 53 HG1.out.1
  clear HG
  refine wpAnyH_ready (rs := [0, 2]) (by kernel_rfl) (by simp) (AllReadyH.cons rfl (fun K1 hK1 => ?_) (AllReadyH.cons rfl (fun K2 hK2 => ?_) AllReadyH.nil))
  · skip
    go_simp
    refine hK1.out _ _ trivial (fun _ => ?_)
    try simp only [Act.put, List.setIfInBounds_toArray, List.set_cons_zero, List.set_cons_succ]
    refine wpAnyH_take (i := 1) (oi := ⟨some 3, _, _, _, _, _⟩) (v := .int .u32 (u : Int)) rfl (by kernel_rfl) (by kernel_rfl) (by kernel_rfl) (fun _ _ _ h => h) (.inl ⟨by rfl, fun W1 h1 => by go_simp⟩) trivial ?_
    try simp only [Act.put, List.setIfInBounds_toArray, List.set_cons_zero, List.set_cons_succ]
    refine wpAnyH_ready (rs := [2]) (by kernel_rfl) (by simp) (AllReadyH.cons rfl (fun K3 hK3 => ?_) AllReadyH.nil)
    go_simp
    refine hK3.out _ _ trivial (fun _ => ?_)
    try simp only [Act.put, List.setIfInBounds_toArray, List.set_cons_zero, List.set_cons_succ]
    refine wpAnyH_take (i := 3) (oi := ⟨some 5, _, _, _, _, _⟩) (v := .int .u32 (r : Int)) rfl (by kernel_rfl) (by kernel_rfl) (by kernel_rfl) (fun _ _ _ h => h) (.inl ⟨by rfl, fun W1 h1 => by go_simp⟩) trivial ?_
    try simp only [Act.put, List.setIfInBounds_toArray, List.set_cons_zero, List.set_cons_succ]
    refine wpAnyH_take (i := 4) (oi := ⟨some 6, _, _, _, _, _⟩) (v := .pointer (some ⟨gt, r, none⟩)) rfl (by kernel_rfl) (by kernel_rfl) (by kernel_rfl) (fun _ _ _ h => h) (.inl ⟨by rfl, fun W1 h1 => by (go_simp; intro hbad; omega)⟩) trivial ?_
    try simp only [Act.put, List.setIfInBounds_toArray, List.set_cons_zero, List.set_cons_succ]
    refine wpAnyH_ready (rs := [5]) (by kernel_rfl) (by simp) (AllReadyH.cons rfl (fun K4 hK4 => ?_) AllReadyH.nil)
    go_simp
    refine hK4.out _ _ trivial (fun _ => ?_)
    try simp only [Act.put, List.setIfInBounds_toArray, List.set_cons_zero, List.set_cons_succ]
    refine wpAnyH_take (i := 6) (oi := ⟨some 8, _, _, _, _, _⟩) (v := .int .u32 (z : Int)) rfl (by kernel_rfl) (by kernel_rfl) (by kernel_rfl) (fun _ _ _ h => h) (.inl ⟨by rfl, fun W1 h1 => by go_simp⟩) trivial ?_
    try simp only [Act.put, List.setIfInBounds_toArray, List.set_cons_zero, List.set_cons_succ]
    refine wpAnyH_ready (rs := [7]) (by kernel_rfl) (by simp) (AllReadyH.cons rfl (fun K9 hK9 => ?_) AllReadyH.nil)
    go_simp
    refine hK9.out _ _ trivial (fun _ => ?_)
    try simp only [Act.put, List.setIfInBounds_toArray, List.set_cons_zero, List.set_cons_succ]
    refine wpAnyH_done (by kernel_rfl) ?_ _
    go_wp2
    go_end0
    rw [HP.out]
    exact ⟨rfl, by rw [← HY.out]; exact one_setCell HG1.out.1, (KeepBut.of_below HB.out g none).set_ 0 _, fun B hB hg => (below_then hB hB.size HB.out).setCell hg _⟩
  · skip
    go_simp
    refine hK2.out _ _ trivial (fun _ => ?_)
    try simp only [Act.put, List.setIfInBounds_toArray, List.set_cons_zero, List.set_cons_succ]
    refine wpAnyH_take (i := 3) (oi := ⟨some 5, _, _, _, _, _⟩) (v := .int .u32 (r : Int)) rfl (by kernel_rfl) (by kernel_rfl) (by kernel_rfl) (fun _ _ _ h => h) (.inl ⟨by rfl, fun W1 h1 => by go_simp⟩) trivial ?_
    try simp only [Act.put, List.setIfInBounds_toArray, List.set_cons_zero, List.set_cons_succ]
    refine wpAnyH_take (i := 4) (oi := ⟨some 6, _, _, _, _, _⟩) (v := .pointer (some ⟨gt, r, none⟩)) rfl (by kernel_rfl) (by kernel_rfl) (by kernel_rfl) (fun _ _ _ h => h) (.inl ⟨by rfl, fun W1 h1 => by (go_simp; intro hbad; omega)⟩) trivial ?_
    try simp only [Act.put, List.setIfInBounds_toArray, List.set_cons_zero, List.set_cons_succ]
    refine wpAnyH_ready (rs := [0, 5]) (by kernel_rfl) (by simp) (AllReadyH.cons rfl (fun K3 hK3 => ?_) (AllReadyH.cons rfl (fun K4 hK4 => ?_) AllReadyH.nil))
    · skip
      go_simp
      refine hK3.out _ _ trivial (fun _ => ?_)
      try simp only [Act.put, List.setIfInBounds_toArray, List.set_cons_zero, List.set_cons_succ]
      refine wpAnyH_take (i := 1) (oi := ⟨some 3, _, _, _, _, _⟩) (v := .int .u32 (u : Int)) rfl (by kernel_rfl) (by kernel_rfl) (by kernel_rfl) (fun _ _ _ h => h) (.inl ⟨by rfl, fun W1 h1 => by go_simp⟩) trivial ?_
      try simp only [Act.put, List.setIfInBounds_toArray, List.set_cons_zero, List.set_cons_succ]
      refine wpAnyH_ready (rs := [5]) (by kernel_rfl) (by simp) (AllReadyH.cons rfl (fun K5 hK5 => ?_) AllReadyH.nil)
      go_simp
      refine hK5.out _ _ trivial (fun _ => ?_)
      try simp only [Act.put, List.setIfInBounds_toArray, List.set_cons_zero, List.set_cons_succ]
      refine wpAnyH_take (i := 6) (oi := ⟨some 8, _, _, _, _, _⟩) (v := .int .u32 (z : Int)) rfl (by kernel_rfl) (by kernel_rfl) (by kernel_rfl) (fun _ _ _ h => h) (.inl ⟨by rfl, fun W1 h1 => by go_simp⟩) trivial ?_
      try simp only [Act.put, List.setIfInBounds_toArray, List.set_cons_zero, List.set_cons_succ]
      refine wpAnyH_ready (rs := [7]) (by kernel_rfl) (by simp) (AllReadyH.cons rfl (fun K9 hK9 => ?_) AllReadyH.nil)
      go_simp
      refine hK9.out _ _ trivial (fun _ => ?_)
      try simp only [Act.put, List.setIfInBounds_toArray, List.set_cons_zero, List.set_cons_succ]
      refine wpAnyH_done (by kernel_rfl) ?_ _
      go_wp2
      go_end0
      rw [HP.out]
      exact ⟨rfl, by rw [← HY.out]; exact one_setCell HG1.out.1, (KeepBut.of_below HB.out g none).set_ 0 _, fun B hB hg => (below_then hB hB.size HB.out).setCell hg _⟩
    · skip
      go_simp
      refine hK4.out _ _ trivial (fun _ => ?_)
      try simp only [Act.put, List.setIfInBounds_toArray, List.set_cons_zero, List.set_cons_succ]
      refine wpAnyH_ready (rs := [0]) (by kernel_rfl) (by simp) (AllReadyH.cons rfl (fun K5 hK5 => ?_) AllReadyH.nil)
      go_simp
      refine hK5.out _ _ trivial (fun _ => ?_)
      try simp only [Act.put, List.setIfInBounds_toArray, List.set_cons_zero, List.set_cons_succ]
      refine wpAnyH_take (i := 1) (oi := ⟨some 3, _, _, _, _, _⟩) (v := .int .u32 (u : Int)) rfl (by kernel_rfl) (by kernel_rfl) (by kernel_rfl) (fun _ _ _ h => h) (.inl ⟨by rfl, fun W1 h1 => by go_simp⟩) trivial ?_
      try simp only [Act.put, List.setIfInBounds_toArray, List.set_cons_zero, List.set_cons_succ]
      refine wpAnyH_take (i := 6) (oi := ⟨some 8, _, _, _, _, _⟩) (v := .int .u32 (z : Int)) rfl (by kernel_rfl) (by kernel_rfl) (by kernel_rfl) (fun _ _ _ h => h) (.inl ⟨by rfl, fun W1 h1 => by go_simp⟩) trivial ?_
      try simp only [Act.put, List.setIfInBounds_toArray, List.set_cons_zero, List.set_cons_succ]
      refine wpAnyH_ready (rs := [7]) (by kernel_rfl) (by simp) (AllReadyH.cons rfl (fun K9 hK9 => ?_) AllReadyH.nil)
      go_simp
      refine hK9.out _ _ trivial (fun _ => ?_)
      try simp only [Act.put, List.setIfInBounds_toArray, List.set_cons_zero, List.set_cons_succ]
      refine wpAnyH_done (by kernel_rfl) ?_ _
      go_wp2
      go_end0
      rw [HP.out]
      exact ⟨rfl, by rw [← HY.out]; exact one_setCell HG1.out.1, (KeepBut.of_below HB.out g none).set_ 0 _, fun B hB hg => (below_then hB hB.size HB.out).setCell hg _⟩

set_option maxRecDepth 100000 in
set_option maxHeartbeats 400000 in
theorem go_calls (A : Option Addr) (c n : Nat) (l : List Int) (hn : n = l.length) (w : World) (hr : C8 w A n l) (hb : Byt l) :
    Calls Try.prog 118 #[.int .u32 0, .slice A n c] w fun e w' => e = .returned (.int .u32 (sumN l : Int)) ∧ Below w.heap.size w w' := by
  obtain ⟨P, hP⟩ : ∃ P : Ending → World → Prop, P = (fun e w' => e = .returned (.int .u32 (sumN l : Int)) ∧ Below w.heap.size w w') := ⟨_, rfl⟩
  rw [← hP]
  have HP := Aside0.mk hP
  have HR := Aside0.mk (And.intro hn (And.intro hr hb))
  have hnm : n ≤ 9223372036854775807 := Kd.C_max hr
  clear hP hn hr hb
  go_enter Try.func118, Try.ntmps118
  go_wp2_with fail
  refine (halves_calls _).mono ?_
  rintro e w1 ⟨rfl, hb1⟩
  have B0 := below_then (hb1.alloc hb1.size (.cells T187 187)) (by simp; exact Nat.le_succ_of_le hb1.size) (below_alloc (Below.refl _ _) (.cells #[.int .u32 4294967295] 53))
  have B1 := Aside0.mk B0
  have b1 := blk_below (blk_new w1 (.cells T187 187)) (below_alloc (Below.refl _ (w1.alloc (.cells T187 187))) (.cells #[.int .u32 4294967295] 53))
  have b2 := blk_new (w1.alloc (.cells T187 187)) (.cells #[.int .u32 4294967295] 53)
  simp only [World.size_alloc] at b2
  have G1 := Aside0.mk (And.intro b2 b1)
  have hsz := hb1.size
  have e0 : bits .xor .u32 IntKind.u32.max 0 = 4294967295 := bits_not 0 (by decide)
  clear hb1 B0 b1 b2
  go_wp2
  clear e0
  go_loopw [16] (fun v16 wr => ∃ (j s : Nat), v16 = .int .i64 (j : Int) ∧ j ≤ n ∧ s < 4294967296 ∧ Aside0 (s = crcN 4294967295 (l.take j)) ∧ Aside0 (wr.heap[w1.heap.size + 1]? = some (.cells #[.int .u32 (s : Int)] 53 (0, 0)) ∧ wr.heap[w1.heap.size]? = some (.cells T187 187 (0, 0))) ∧ Aside0 (Below w.heap.size w wr)) (fun v _ => n - (intOf v).toNat)
  case atStart => exact ⟨0, 4294967295, rfl, by omega, by omega, ⟨by simp [crcN]⟩, G1, B1⟩
  case round =>
    obtain ⟨j, s, rfl, hj, hs, Hs, HG, HB⟩ := hrel
    have x6 : wr.cell? ⟨w1.heap.size + 1, 0, none⟩ = some (.int .u32 (s : Int)) := by rw [cell_of_row _ _ 0 _ 53 (0, 0) HG.out.1]; rfl
    clear G1 B1
    by_cases hlt : j < n
    · obtain ⟨bq, off, rfl, hbq, hx⟩ := C_at 0 (Kd.C_below HR.out.2.1 HB.out) (by omega)
      obtain ⟨q, hq, hq1, hq2⟩ := byte_at HR.out.2.2 (j := j) (by rw [← HR.out.1]; exact hlt)
      have hx0 := hx j hlt
      rw [hq1] at hx0
      have HQ := Aside0.mk hq2
      have x7 : wr.frozen? ⟨w1.heap.size + 1, 0, none⟩ = false := frozen_of_row wr _ 0 _ 53 HG.out.1
      clear hx hq1 hq2
      have hqm : (q : Int) % 4294967296 = q := by omega
      obtain ⟨t, ht⟩ : ∃ t, t = s ^^^ q := ⟨_, rfl⟩
      have htl : t < 4294967296 := by rw [ht]; exact Nat.xor_lt_two_pow (n := 32) hs (by omega)
      have b2 := bits_xor_u32_nat s q hs (by omega)
      rw [← ht] at b2
      have HT := Aside0.mk ht
      have G2 := Aside0.mk (And.intro (show (wr.setCell ⟨w1.heap.size + 1, 0, none⟩ (.int .u32 (t : Int))).heap[w1.heap.size + 1]? = some (.cells #[.int .u32 (t : Int)] 53 (0, 0)) from one_setCell HG.out.1) ((KeepBut.set_ (KeepBut.refl wr (w1.heap.size + 1) none) 0 (.int .u32 (t : Int))).blk HG.out.2 (by omega) (by simp)))
      have B2 := Aside0.mk (HB.out.setCell (p := ⟨w1.heap.size + 1, 0, none⟩) (show w.heap.size ≤ w1.heap.size + 1 by omega) (.int .u32 (t : Int)))
      clear ht HB HG
      go_wp2_with fail
      refine (half_calls _ _ t htl _ G2.out.1 G2.out.2 (by omega)).mono ?_
      rintro e w2 ⟨rfl, g3, k3, f3⟩
      have G3 := Aside0.mk (And.intro g3 (k3.blk G2.out.2 (by omega) (by simp)))
      have B3 := Aside0.mk (f3 _ B2.out (by omega))
      clear g3 k3 f3 G2 B2 x6 x7 hx0 b2
      go_wp2_with fail
      refine (half_calls _ _ (halfN t) (halfN_lt htl) _ G3.out.1 G3.out.2 (by omega)).mono ?_
      rintro e w3 ⟨rfl, g4, k4, f4⟩
      have G4 := Aside0.mk (And.intro g4 (k4.blk G3.out.2 (by omega) (by simp)))
      have B4 := Aside0.mk (f4 _ B3.out (by omega))
      clear g4 k4 f4 G3 B3
      go_wp2
      go_roundw
      case rel => exact ⟨j + 1, halfN (halfN t), by go_num, by omega, halfN_lt (halfN_lt htl), ⟨by rw [HQ.out, crcN_snoc, ← Hs.out, HT.out]; rfl⟩, G4, B4⟩
      case measure => simp [intOf]; omega
    · have bn := bits_not s hs
      go_wp2
      rw [HP.out]
      refine ⟨?_, HB.out⟩
      have e : s = crcN 4294967295 l := by rw [Hs.out, show j = l.length from by rw [← HR.out.1]; omega, List.take_length]
      show Ending.returned (Value.int .u32 (4294967295 - (s : Int))) = _
      rw [show ((4294967295 : Int) - (s : Int)) = ((sumN l : Nat) : Int) from by unfold sumN; rw [← e]; omega]

set_option maxRecDepth 100000 in
theorem sum_calls (A : Option Addr) (c n : Nat) (l : List Int) (hn : n = l.length) (w : World) (hr : C8 w A n l) (hb : Byt l) :
    Calls Try.prog 91 #[.slice A n c] w fun e w' => e = .returned (.int .u32 (sumN l : Int)) ∧ Below w.heap.size w w' := by
  obtain ⟨P, hP⟩ : ∃ P : Ending → World → Prop, P = (fun e w' => e = .returned (.int .u32 (sumN l : Int)) ∧ Below w.heap.size w w') := ⟨_, rfl⟩
  rw [← hP]
  have HP := Aside0.mk hP
  have HR := Aside0.mk (And.intro hn (And.intro hr hb))
  clear hP hn hr hb
  go_enter Try.func91, Try.ntmps91
  go_wp2_with fail
  refine (go_calls A c n l HR.out.1 _ HR.out.2.1 HR.out.2.2).mono ?_
  rintro e w1 ⟨rfl, hb1⟩
  have HB := Aside0.mk hb1
  clear hb1
  go_wp2
  rw [HP.out]
  exact ⟨rfl, HB.out⟩
end Go.Proofs.Ytfefpbnhpncmlaa.CrcC
namespace Go.Proofs.Ytfefpbnhpncmlaa.StmD
open Go.RowKit Go.Proofs.Ytfefpbnhpncmlaa.EntL Go.Proofs.Ytfefpbnhpncmlaa.EntB Go.Proofs.Ytfefpbnhpncmlaa.EntC Go.Proofs.Ytfefpbnhpncmlaa.EntD Go.Proofs.Ytfefpbnhpncmlaa.EntE Go.Proofs.Ytfefpbnhpncmlaa.EntF Go.Proofs.Ytfefpbnhpncmlaa.CatR Go.Proofs.Ytfefpbnhpncmlaa.CatT Go.Proofs.Ytfefpbnhpncmlaa.CatU Go.Proofs.Ytfefpbnhpncmlaa.CatK Go.Proofs.Ytfefpbnhpncmlaa.CatS Go.Proofs.Ytfefpbnhpncmlaa.CatY Go.Proofs.Ytfefpbnhpncmlaa.RefG Go.Proofs.Ytfefpbnhpncmlaa.PtrB Go.Proofs.Ytfefpbnhpncmlaa.PtrG Go.Proofs.Ytfefpbnhpncmlaa.Agg Go.Proofs.Ytfefpbnhpncmlaa.B8 Go.Proofs.Ytfefpbnhpncmlaa.CodL Go.Proofs.Ytfefpbnhpncmlaa.CodA Go.Proofs.Ytfefpbnhpncmlaa.CodB Go.Proofs.Ytfefpbnhpncmlaa.CatL Go.Proofs.Ytfefpbnhpncmlaa.PtrA Go.Proofs.Ytfefpbnhpncmlaa.PtrE Go.Proofs.Ytfefpbnhpncmlaa.PtrF Go.Proofs.Ytfefpbnhpncmlaa.PBaseSigns Go.Proofs.YtfefpbnhpncmlaaW.PrintWords Go.Proofs.YtfefpbnhpncmlaaW.PrintLast Go.Proofs.YtfefpbnhpncmlaaW.PrintMore Go.Proofs.Ytfefpbnhpncmlaa.EntG Go.Proofs.Ytfefpbnhpncmlaa.StmA Go.Proofs.Ytfefpbnhpncmlaa.StmB Go.Proofs.Ytfefpbnhpncmlaa.StmC Go.Proofs.Ytfefpbnhpncmlaa.CrcC
set_option linter.unusedVariables false
set_option linter.unusedSimpArgs false

/-- A change. -/
structure Chg where
  key : ByteArray
  inn : ByteArray
  data : ByteArray
  gone : Bool
def emp : ByteArray := ⟨#[]⟩
/-- Reading one: it, what is left, and whether something was wrong. -/
def textR (M : Nat) (l : List Int) (bad : Bool) : ByteArray × List Int × Bool := ((readText l M).1, l.drop (readText l M).2.1, bad || decide ((readText l M).2.2 ≠ 0))
def numR (M : Nat) (l : List Int) (bad : Bool) : Int × List Int × Bool := (if badN l M then 0 else (readShort l).1, if badN l M then l else l.drop (readShort l).2.1, bad || badN l M)
def chgR (l : List Int) (bad : Bool) : Chg × List Int × Bool :=
  let k := textR 160 l bad
  let n := numR 1 k.2.1 k.2.2
  if n.1 = 1 then (⟨k.1, emp, emp, true⟩, n.2.1, n.2.2)
  else
    let i := textR 400 n.2.1 n.2.2
    let d := textR 65536 i.2.1 i.2.2
    (⟨k.1, i.1, d.1, false⟩, d.2.1, d.2.2)
/-- A change's cells stand for it. -/
structure CA (w : World) (A1 : Option Addr) (n1 c1 : Nat) (A2 : Option Addr) (n2 c2 : Nat) (A3 : Option Addr) (n3 c3 : Nat) (x : Chg) : Prop where
  k : C8 w A1 n1 (bytesOf x.key)
  i : C8 w A2 n2 (bytesOf x.inn)
  d : C8 w A3 n3 (bytesOf x.data)
  h1 : n1 ≤ c1
  h2 : n2 ≤ c2
  h3 : n3 ≤ c3
theorem CA.below {w w' : World} {A1 : Option Addr} {n1 c1 : Nat} {A2 : Option Addr} {n2 c2 : Nat} {A3 : Option Addr} {n3 c3 : Nat} {x : Chg} (h : CA w A1 n1 c1 A2 n2 c2 A3 n3 c3 x) (hb : Below w.heap.size w w') : CA w' A1 n1 c1 A2 n2 c2 A3 n3 c3 x :=
  ⟨Kd.C_below h.k hb, Kd.C_below h.i hb, Kd.C_below h.d hb, h.h1, h.h2, h.h3⟩
theorem CA.keep {w W : World} {g : Nat} {A1 : Option Addr} {n1 c1 : Nat} {A2 : Option Addr} {n2 c2 : Nat} {A3 : Option Addr} {n3 c3 : Nat} {x : Chg} (h : CA w A1 n1 c1 A2 n2 c2 A3 n3 c3 x) (hk : KeepBut w W g none)
    (f1 : ∀ ad, A1 = some ad → 0 < n1 → ad.block ≠ g) (f2 : ∀ ad, A2 = some ad → 0 < n2 → ad.block ≠ g) (f3 : ∀ ad, A3 = some ad → 0 < n3 → ad.block ≠ g) : CA W A1 n1 c1 A2 n2 c2 A3 n3 c3 x :=
  ⟨Kd.C_keep 0 h.k hk f1, Kd.C_keep 0 h.i hk f2, Kd.C_keep 0 h.d hk f3, h.h1, h.h2, h.h3⟩
/-- Its block was laid between two worlds. -/
def Fr (w w' : World) (A : Option Addr) : Prop := ∀ ad, A = some ad → w.heap.size ≤ ad.block ∧ ad.block < w'.heap.size
theorem keep_row (w : World) (g : Nat) (cs : Array Value) : KeepBut w (w.setRow g cs) g none := ⟨by simp, fun i hi h1 _ => setRow_other _ _ _ _ h1⟩
theorem keep_new {w w1 : World} {g : Nat} (h : KeepBut w w1 g none) (g3 j : Nat) (v : Value) (hg : w.heap.size ≤ g3) : KeepBut w (w1.setCell ⟨g3, j, none⟩ v) g none :=
  ⟨by rw [World.size_setCell]; exact h.1, fun i hi h1 h2 => by rw [heap_setCell_other _ _ _ _ (show i ≠ g3 by omega)]; exact h.2 i hi h1 h2⟩
abbrev Z133 : Array Value := #[.slice none 0 0, .slice none 0 0, .slice none 0 0, .bool false]
theorem u133 : Try.prog.underlying 133 = some (.struct (Try.prog.fieldsOf 133)) := by kernel_rfl
theorem i133 : (Try.prog.info? 133).map (·.size) = some 4 := by kernel_rfl
def TellsC (B : World) (g : Nat) (l : List Int) (bad : Bool) (w : World) (e : Ending) (w' : World) : Prop :=
  ∃ A1 n1 c1 A2 n2 c2 A3 n3 c3, Fr w w' A1 ∧ Fr w w' A2 ∧ Fr w w' A3 ∧ e = .returned (.agg #[.slice A1 n1 c1, .slice A2 n2 c2, .slice A3 n3 c3, .bool (chgR l bad).1.gone]) ∧ CA w' A1 n1 c1 A2 n2 c2 A3 n3 c3 (chgR l bad).1 ∧ RB B g (chgR l bad).2.1 (chgR l bad).2.2 w' ∧ KeepBut w w' g none
set_option maxRecDepth 100000 in
set_option maxHeartbeats 1000000 in
theorem change_calls (B : World) (g : Nat) (l : List Int) (bad : Bool) (w : World) (h : RB B g l bad w) :
    Calls Try.prog 98 #[.pointer (some ⟨g, 0, none⟩)] w (TellsC B g l bad w) := by
  have H := Aside0.mk h
  obtain ⟨P, hP⟩ : ∃ P : Ending → World → Prop, P = TellsC B g l bad w := ⟨_, rfl⟩
  rw [← hP]
  have HP := Aside0.mk hP
  have hend : Aside0 (∀ (W3 : World) A1 n1 c1 A2 n2 c2 A3 n3 c3, W3.heap[w.heap.size]? = some (.cells Z133 133 (0, 0)) → CA W3 A1 n1 c1 A2 n2 c2 A3 n3 c3 (chgR l bad).1 → (∀ ad, A1 = some ad → w.heap.size < ad.block ∧ ad.block < W3.heap.size) → (∀ ad, A2 = some ad → w.heap.size < ad.block ∧ ad.block < W3.heap.size) → (∀ ad, A3 = some ad → w.heap.size < ad.block ∧ ad.block < W3.heap.size) →
      RB B g (chgR l bad).2.1 (chgR l bad).2.2 W3 → KeepBut w W3 g none → P (.returned (.agg #[.slice A1 n1 c1, .slice A2 n2 c2, .slice A3 n3 c3, .bool (chgR l bad).1.gone])) (W3.setRow w.heap.size #[.slice A1 n1 c1, .slice A2 n2 c2, .slice A3 n3 c3, .bool (chgR l bad).1.gone])) := ⟨fun W3 A1 n1 c1 A2 n2 c2 A3 n3 c3 hz hca f1 f2 f3 hrb hk => by
    rw [hP]
    have hgw := h.lt
    refine ⟨A1, n1, c1, A2, n2, c2, A3, n3, c3, fun ad e => ?_, fun ad e => ?_, fun ad e => ?_, rfl, hca.keep (keep_row W3 _ _) (fun ad e _ => by have := f1 ad e; omega) (fun ad e _ => by have := f2 ad e; omega) (fun ad e _ => by have := f3 ad e; omega), ?_, ?_⟩
    · have := f1 ad e; simp; omega
    · have := f2 ad e; simp; omega
    · have := f3 ad e; simp; omega
    · exact hrb.keep (below_setRow hrb.below h.below.size _) (setRow_other _ _ _ _ (by omega))
    · exact ⟨by simp; exact hk.1, fun i hi h1 h2 => by rw [setRow_other _ _ _ _ (by omega)]; exact hk.2 i hi h1 h2⟩⟩
  clear h hP
  go_enter Try.func98, Try.ntmps98
  go_wp2_with fail
  have hsz0 : w.heap.size ≤ w.heap.size := Nat.le_refl _
  have R0 := Aside0.mk (H.out.on (below_alloc (Below.refl w.heap.size w) (.cells Z133 133)))
  have K0 := Aside0.mk (KeepBut.of_below (below_alloc (Below.refl w.heap.size w) (.cells Z133 133)) g none)
  have G0 := Aside0.mk (blk_new w (.cells Z133 133))
  refine (textT_calls 160 (by decide) readText_160 B g l bad _ R0.out).mono ?_
  rintro e w1 ⟨A1, c1, hf1, rfl, hC1, hc1, hr1, hk1⟩
  have F1 := Aside0.mk (show ∀ ad, A1 = some ad → w.heap.size < ad.block ∧ ad.block < w1.heap.size from fun ad e => by have := hf1 ad e; simp at this; omega)
  clear hf1
  obtain ⟨k, hk⟩ : ∃ k, k = textR 160 l bad := ⟨_, rfl⟩
  have hgw := H.out.lt
  have hgne : w.heap.size ≠ g := by omega
  have C1 := Aside0.mk (And.intro hk (And.intro (show C8 w1 A1 k.1.size (bytesOf k.1) by rw [hk]; exact hC1) (And.intro (show k.1.size ≤ c1 by rw [hk]; exact hc1) (show RB B g k.2.1 k.2.2 w1 by rw [hk]; exact hr1))))
  have K1 := Aside0.mk (K0.out.trans hk1 (.inl rfl))
  have G1 := Aside0.mk (hk1.blk G0.out hgne (by simp))
  rw [show (readText l 160).1 = k.1 from by rw [hk]; rfl]
  obtain ⟨n1, hn1⟩ : ∃ n1, n1 = k.1.size := ⟨_, rfl⟩
  rw [← hn1]
  have N1 := Aside0.mk hn1
  have bal := below_alloc (Below.refl w1.heap.size w1) (.cells #[.slice A1 n1 c1, .slice none 0 0, .slice none 0 0, .bool false] 133)
  have R1 := Aside0.mk (C1.out.2.2.2.on bal)
  have C2 := Aside0.mk (show C8 (w1.alloc (.cells #[.slice A1 n1 c1, .slice none 0 0, .slice none 0 0, .bool false] 133)) A1 n1 (bytesOf k.1) by rw [hn1]; exact Kd.C_below C1.out.2.1 (by rw [← hn1]; exact bal))
  have K2 := Aside0.mk (K1.out.trans (KeepBut.of_below bal g none) (.inl rfl))
  have G2 := Aside0.mk (And.intro (blk_below G1.out bal) (blk_new w1 (.cells #[.slice A1 n1 c1, .slice none 0 0, .slice none 0 0, .bool false] 133)))
  have hsz1 : w.heap.size < w1.heap.size := by have := blk_lt G1.out; omega
  clear hk hn1 hC1 hc1 hr1 hk1 R0 K0 G0 K1 G1 bal
  go_wp2_with fail
  refine (numT_calls 1 (by decide) B g k.2.1 k.2.2 _ R1.out).mono ?_
  rintro e w2 ⟨rfl, hr2, hk2⟩
  obtain ⟨n, hn⟩ : ∃ n, n = numR 1 k.2.1 k.2.2 := ⟨_, rfl⟩
  have hr2' : RB B g n.2.1 n.2.2 w2 := by rw [hn]; exact hr2
  rw [show (if badN k.2.1 1 then 0 else (readShort k.2.1).1) = n.1 from by rw [hn]; rfl]
  have C3 := Aside0.mk (And.intro hn hr2')
  have hg3 : w1.heap.size ≠ g := by omega
  have G3 := Aside0.mk (And.intro (hk2.blk G2.out.1 hgne (by simp)) (hk2.blk G2.out.2 hg3 (by simp)))
  have K3 := Aside0.mk (K2.out.trans hk2 (.inl rfl))
  have F3 := Aside0.mk hk2
  clear hn hr2 hk2 hr2' R1 K2 G2
  generalize hnn : n.1 = nn at *
  have HNN := Aside0.mk hnn
  clear hnn
  by_cases h1 : nn = 1
  · have HX := Aside0.mk (show chgR l bad = (⟨k.1, emp, emp, true⟩, n.2.1, n.2.2) by unfold chgR; simp only [← C1.out.1, ← C3.out.1]; rw [if_pos (HNN.out.trans h1)])
    have x3 : w2.cell? ⟨w1.heap.size, 3, none⟩ = some (.bool false) := by rw [cell_of_row _ _ 3 _ 133 (0, 0) G3.out.2]; rfl
    have hf3 := frozen_of_row w2 w1.heap.size 3 _ 133 G3.out.2
    have GL := Aside0.mk (show (w2.setCell ⟨w1.heap.size, 3, none⟩ (.bool true)).heap[w1.heap.size]? = some (.cells #[.slice A1 n1 c1, .slice none 0 0, .slice none 0 0, .bool true] 133 (0, 0)) from heap_setCell_same _ _ _ _ _ _ G3.out.2)
    have GZ := Aside0.mk (show (w2.setCell ⟨w1.heap.size, 3, none⟩ (.bool true)).heap[w.heap.size]? = some (.cells Z133 133 (0, 0)) by rw [heap_setCell_other _ _ _ _ (show w.heap.size ≠ w1.heap.size by omega)]; exact G3.out.1)
    have HE := Aside0.mk (hend.out (w2.setCell ⟨w1.heap.size, 3, none⟩ (.bool true)) A1 n1 c1 none 0 0 none 0 0 GZ.out (by
      rw [HX.out]
      have hkk := F3.out
      have c0 : CA w2 A1 n1 c1 none 0 0 none 0 0 ⟨k.1, emp, emp, true⟩ := ⟨Kd.C_keep 0 C2.out hkk (fun ad e _ => by have := F1.out ad e; omega), Kd.C_nil _ _, Kd.C_nil _ _, by rw [N1.out]; exact C1.out.2.2.1, Nat.le_refl _, Nat.le_refl _⟩
      exact c0.keep ((KeepBut.refl w2 w1.heap.size none).set_ 3 (.bool true)) (fun ad e _ => by have := F1.out ad e; omega) (fun ad e => by cases e) (fun ad e => by cases e))
      (fun ad e => by have := F1.out ad e; have := F3.out.1; simp at this ⊢; omega) (fun ad e => by cases e) (fun ad e => by cases e)
      (by rw [HX.out]; exact C3.out.2.keep (C3.out.2.below.setCell (p := ⟨w1.heap.size, 3, none⟩) (show B.heap.size ≤ w1.heap.size by have := H.out.below.size; omega) _) (heap_setCell_other _ _ _ _ (show g ≠ w1.heap.size by omega)))
      (keep_new K3.out w1.heap.size 3 (.bool true) (by omega)))
    rw [HX.out] at HE
    subst h1
    clear hend
    go_wp2_with first
      | (refine wpList_load_row rfl 133 (.tmp 3) rfl w1.heap.size rfl 133 #[.slice A1 n1 c1, .slice none 0 0, .slice none 0 0, .bool true] (0, 0) _ GL.out u133 rfl i133 ?_)
      | (refine wpList_store_row rfl 133 (.tmp 2) (.tmp 21) rfl w.heap.size #[.slice A1 n1 c1, .slice none 0 0, .slice none 0 0, .bool true] rfl rfl 133 Z133 GZ.out i133 rfl (by simp [Value.oneCell']) ?_)
    refine bodyPost_ret (Go.Proofs.Ytfefpbnhpncmlaa.CrcC.res_c (p := 2) (cs := #[.slice A1 n1 c1, .slice none 0 0, .slice none 0 0, .bool true]) _ rfl rfl (setRow_heap _ w.heap.size Z133 _ 133 _ GZ.out) u133 rfl i133) rfl ?_
    exact HE.out
  · have hd : ¬ (nn == 1) = true := by simp [h1]
    have hd2 : decide (nn = 1) = false := decide_eq_false h1
    go_wp2_with fail
    refine (textT_calls 400 (by decide) readText_400 B g n.2.1 n.2.2 _ C3.out.2).mono ?_
    rintro e w3 ⟨A2, c2, hf2, rfl, hC2, hc2, hr3, hk3⟩
    obtain ⟨i, hi⟩ : ∃ i, i = textR 400 n.2.1 n.2.2 := ⟨_, rfl⟩
    have hs32 := F3.out.1
    simp only [World.size_alloc] at hs32
    have F2 := Aside0.mk (show ∀ ad, A2 = some ad → w1.heap.size < ad.block ∧ ad.block < w3.heap.size from fun ad e => by have := hf2 ad e; omega)
    rw [show (readText n.2.1 400).1 = i.1 from by rw [hi]; rfl] at hC2 hc2 ⊢
    have hr3' : RB B g i.2.1 i.2.2 w3 := by rw [hi]; exact hr3
    obtain ⟨n2, hn2⟩ : ∃ n2, n2 = i.1.size := ⟨_, rfl⟩
    rw [← hn2] at hC2 hc2 ⊢
    have hg3z := hk3.blk G3.out.1 hgne (by simp)
    have hg3t := hk3.blk G3.out.2 hg3 (by simp)
    have x31 : w3.cell? ⟨w1.heap.size, 1, none⟩ = some (.slice none 0 0) := by rw [cell_of_row _ _ 1 _ 133 (0, 0) hg3t]; rfl
    have hf31 := frozen_of_row w3 w1.heap.size 1 _ 133 hg3t
    obtain ⟨W4, hW4⟩ : ∃ W4, W4 = w3.setCell ⟨w1.heap.size, 1, none⟩ (.slice A2 n2 c2) := ⟨_, rfl⟩
    have h4 : W4.heap.size = w3.heap.size := by rw [hW4]; simp
    have kb34 : KeepBut w3 W4 w1.heap.size none := by rw [hW4]; exact (KeepBut.refl w3 w1.heap.size none).set_ 1 _
    have c4 : CA W4 A1 n1 c1 A2 n2 c2 none 0 0 ⟨k.1, i.1, emp, false⟩ := by
      have hkk := F3.out
      refine CA.keep (w := w3) ⟨Kd.C_keep 0 (Kd.C_keep 0 C2.out hkk (fun ad e _ => by have := F1.out ad e; omega)) hk3 (fun ad e _ => by have := F1.out ad e; omega), hC2, Kd.C_nil _ _, by rw [N1.out]; exact C1.out.2.2.1, hc2, Nat.le_refl _⟩ kb34 (fun ad e _ => by have := F1.out ad e; omega) (fun ad e _ => by have := F2.out ad e; omega) (fun ad e => by cases e)
    have r4 : RB B g i.2.1 i.2.2 W4 := by
      rw [hW4]
      exact hr3'.keep (hr3'.below.setCell (p := ⟨w1.heap.size, 1, none⟩) (show B.heap.size ≤ w1.heap.size by have := H.out.below.size; omega) _) (heap_setCell_other _ _ _ _ (show g ≠ w1.heap.size by omega))
    have g4t : W4.heap[w1.heap.size]? = some (.cells #[.slice A1 n1 c1, .slice A2 n2 c2, .slice none 0 0, .bool false] 133 (0, 0)) := by rw [hW4]; exact heap_setCell_same _ _ _ _ _ _ hg3t
    have g4z : W4.heap[w.heap.size]? = some (.cells Z133 133 (0, 0)) := by rw [hW4, heap_setCell_other _ _ _ _ (show w.heap.size ≠ w1.heap.size by omega)]; exact hg3z
    have k4 : KeepBut w W4 g none := by rw [hW4]; exact keep_new (K3.out.trans hk3 (.inl rfl)) w1.heap.size 1 _ (by omega)
    have Q4 := Aside0.mk (And.intro hi (And.intro c4 (And.intro r4 (And.intro g4t (And.intro g4z k4)))))
    have hs3 := hk3.1
    clear hi c4 r4 g4t g4z k4 hC2 hc2 hr3 hr3' hn2 hg3z hg3t kb34 hk3 hf2
    go_wp2_with fail
    rw [← hW4]
    clear x31 hf31 hW4
    refine (textT_calls 65536 (by decide) readText_65536 B g i.2.1 i.2.2 _ Q4.out.2.2.1).mono ?_
    rintro e w5 ⟨A3, c3, hf3, rfl, hC3, hc3, hr5, hk5⟩
    obtain ⟨d, hdd⟩ : ∃ d, d = textR 65536 i.2.1 i.2.2 := ⟨_, rfl⟩
    have F5 := Aside0.mk (show ∀ ad, A3 = some ad → w1.heap.size < ad.block ∧ ad.block < w5.heap.size from fun ad e => by have := hf3 ad e; omega)
    rw [show (readText i.2.1 65536).1 = d.1 from by rw [hdd]; rfl] at hC3 hc3 ⊢
    have hr5' : RB B g d.2.1 d.2.2 w5 := by rw [hdd]; exact hr5
    obtain ⟨n3, hn3⟩ : ∃ n3, n3 = d.1.size := ⟨_, rfl⟩
    rw [← hn3] at hC3 hc3 ⊢
    have g5t := hk5.blk Q4.out.2.2.2.1 hg3 (by simp)
    have g5z := hk5.blk Q4.out.2.2.2.2.1 hgne (by simp)
    have x52 : w5.cell? ⟨w1.heap.size, 2, none⟩ = some (.slice none 0 0) := by rw [cell_of_row _ _ 2 _ 133 (0, 0) g5t]; rfl
    have hf52 := frozen_of_row w5 w1.heap.size 2 _ 133 g5t
    have HX := Aside0.mk (show chgR l bad = (⟨k.1, i.1, d.1, false⟩, d.2.1, d.2.2) by unfold chgR; simp only [← C1.out.1, ← C3.out.1, ← Q4.out.1, ← hdd]; rw [if_neg (by rw [HNN.out]; exact h1)])
    have GL := Aside0.mk (show (w5.setCell ⟨w1.heap.size, 2, none⟩ (.slice A3 n3 c3)).heap[w1.heap.size]? = some (.cells #[.slice A1 n1 c1, .slice A2 n2 c2, .slice A3 n3 c3, .bool false] 133 (0, 0)) from heap_setCell_same _ _ _ _ _ _ g5t)
    have GZ := Aside0.mk (show (w5.setCell ⟨w1.heap.size, 2, none⟩ (.slice A3 n3 c3)).heap[w.heap.size]? = some (.cells Z133 133 (0, 0)) by rw [heap_setCell_other _ _ _ _ (show w.heap.size ≠ w1.heap.size by omega)]; exact g5z)
    have hs5 := hk5.1
    have HE := Aside0.mk (hend.out (w5.setCell ⟨w1.heap.size, 2, none⟩ (.slice A3 n3 c3)) A1 n1 c1 A2 n2 c2 A3 n3 c3 GZ.out (by
      rw [HX.out]
      have c5 := Q4.out.2.1.keep hk5 (fun ad e _ => by have := F1.out ad e; omega) (fun ad e _ => by have := F2.out ad e; omega) (fun ad e => by cases e)
      exact CA.keep (w := w5) ⟨c5.k, c5.i, hC3, c5.h1, c5.h2, hc3⟩ ((KeepBut.refl w5 w1.heap.size none).set_ 2 (.slice A3 n3 c3)) (fun ad e _ => by have := F1.out ad e; omega) (fun ad e _ => by have := F2.out ad e; omega) (fun ad e _ => by have := F5.out ad e; omega))
      (fun ad e => by have := F1.out ad e; simp; omega) (fun ad e => by have := F2.out ad e; simp; omega) (fun ad e => by have := F5.out ad e; simp; omega)
      (by rw [HX.out]; exact hr5'.keep (hr5'.below.setCell (p := ⟨w1.heap.size, 2, none⟩) (show B.heap.size ≤ w1.heap.size by have := H.out.below.size; omega) _) (heap_setCell_other _ _ _ _ (show g ≠ w1.heap.size by omega)))
      (keep_new (Q4.out.2.2.2.2.2.trans hk5 (.inl rfl)) w1.heap.size 2 _ (by omega)))
    rw [HX.out] at HE
    clear hend hdd hC3 hc3 hr5 hr5' hn3 g5t g5z hk5 hf3 hs5
    go_wp2_with first
      | (refine wpList_load_row rfl 133 (.tmp 3) rfl w1.heap.size rfl 133 #[.slice A1 n1 c1, .slice A2 n2 c2, .slice A3 n3 c3, .bool false] (0, 0) _ GL.out u133 rfl i133 ?_)
      | (refine wpList_store_row rfl 133 (.tmp 2) (.tmp 21) rfl w.heap.size #[.slice A1 n1 c1, .slice A2 n2 c2, .slice A3 n3 c3, .bool false] rfl rfl 133 Z133 GZ.out i133 rfl (by simp [Value.oneCell']) ?_)
    refine bodyPost_ret (Go.Proofs.Ytfefpbnhpncmlaa.CrcC.res_c (p := 2) (cs := #[.slice A1 n1 c1, .slice A2 n2 c2, .slice A3 n3 c3, .bool false]) _ rfl rfl (setRow_heap _ w.heap.size Z133 _ 133 _ GZ.out) u133 rfl i133) rfl ?_
    exact HE.out
end Go.Proofs.Ytfefpbnhpncmlaa.StmD
namespace Go.Proofs.Ytfefpbnhpncmlaa.StmE
open Go.RowKit Go.Proofs.Ytfefpbnhpncmlaa.EntL Go.Proofs.Ytfefpbnhpncmlaa.EntB Go.Proofs.Ytfefpbnhpncmlaa.EntC Go.Proofs.Ytfefpbnhpncmlaa.EntD Go.Proofs.Ytfefpbnhpncmlaa.EntE Go.Proofs.Ytfefpbnhpncmlaa.EntF Go.Proofs.Ytfefpbnhpncmlaa.CatR Go.Proofs.Ytfefpbnhpncmlaa.CatT Go.Proofs.Ytfefpbnhpncmlaa.CatU Go.Proofs.Ytfefpbnhpncmlaa.CatK Go.Proofs.Ytfefpbnhpncmlaa.CatS Go.Proofs.Ytfefpbnhpncmlaa.CatY Go.Proofs.Ytfefpbnhpncmlaa.RefG Go.Proofs.Ytfefpbnhpncmlaa.PtrB Go.Proofs.Ytfefpbnhpncmlaa.PtrG Go.Proofs.Ytfefpbnhpncmlaa.Agg Go.Proofs.Ytfefpbnhpncmlaa.B8 Go.Proofs.Ytfefpbnhpncmlaa.CodL Go.Proofs.Ytfefpbnhpncmlaa.CodA Go.Proofs.Ytfefpbnhpncmlaa.CodB Go.Proofs.Ytfefpbnhpncmlaa.CatL Go.Proofs.Ytfefpbnhpncmlaa.PtrA Go.Proofs.Ytfefpbnhpncmlaa.PtrE Go.Proofs.Ytfefpbnhpncmlaa.PtrF Go.Proofs.Ytfefpbnhpncmlaa.PBaseSigns Go.Proofs.YtfefpbnhpncmlaaW.PrintWords Go.Proofs.YtfefpbnhpncmlaaW.PrintLast Go.Proofs.YtfefpbnhpncmlaaW.PrintMore Go.Proofs.Ytfefpbnhpncmlaa.EntG Go.Proofs.Ytfefpbnhpncmlaa.StmA Go.Proofs.Ytfefpbnhpncmlaa.StmB Go.Proofs.Ytfefpbnhpncmlaa.StmC Go.Proofs.Ytfefpbnhpncmlaa.CrcC Go.Proofs.Ytfefpbnhpncmlaa.StmD
set_option linter.unusedVariables false
set_option linter.unusedSimpArgs false

def namedB (s : ByteArray) : Bool := decide (1 ≤ s.size ∧ s.size ≤ 63)
theorem toList_ne {s : ByteArray} (h : 1 ≤ s.size) : s.toList.isEmpty = false ∧ s.toList ≠ [] := by
  have hn : s.toList ≠ [] := fun e => by
    rw [ByteArray.toList_eq] at e
    have : s.data.toList.length = 0 := by rw [e]; rfl
    rw [Array.length_toList] at this
    have h2 : s.size = s.data.size := rfl
    omega
  exact ⟨by simpa using hn, hn⟩
theorem named_calls (s : ByteArray) (w : World) : Calls Try.prog 116 #[.string s] w fun e w' => e = .returned (.bool (namedB s)) ∧ w' = w := by
  obtain ⟨P, hP⟩ : ∃ P : Ending → World → Prop, P = (fun e w' => e = .returned (.bool (namedB s)) ∧ w' = w) := ⟨_, rfl⟩
  rw [← hP]
  have HP := Aside0.mk hP
  clear hP
  by_cases h0 : s = ⟨#[]⟩
  · have HN := Aside0.mk (show namedB s = false by rw [h0]; rfl)
    subst h0
    go_enter Try.func116, Try.ntmps116
    go_wp2
    rw [HP.out, HN.out]
    exact ⟨rfl, rfl⟩
  · have hs : 1 ≤ s.size := Nat.pos_of_ne_zero fun h => h0 (by
      obtain ⟨d⟩ := s
      have : d = #[] := Array.eq_empty_of_size_eq_zero h
      rw [this])
    obtain ⟨hne, hne2⟩ := toList_ne (s := s) hs
    by_cases h1 : s.size ≤ 63
    · have HN := Aside0.mk (show namedB s = true from decide_eq_true ⟨hs, h1⟩)
      have d1 : decide ((s.size : Int) ≤ 63) = true := decide_eq_true (by omega)
      clear h0
      go_enter Try.func116, Try.ntmps116
      go_wp2
      rw [HP.out, HN.out]
      exact ⟨rfl, rfl⟩
    · have HN := Aside0.mk (show namedB s = false from decide_eq_false (by omega))
      have d1 : decide ((s.size : Int) ≤ 63) = false := decide_eq_false (by omega)
      clear h0
      go_enter Try.func116, Try.ntmps116
      go_wp2
      rw [HP.out, HN.out]
      exact ⟨rfl, rfl⟩
end Go.Proofs.Ytfefpbnhpncmlaa.StmE
namespace Go.Proofs.Ytfefpbnhpncmlaa.StmL
open Go.RowKit Go.Proofs.Ytfefpbnhpncmlaa.EntL Go.Proofs.Ytfefpbnhpncmlaa.EntB Go.Proofs.Ytfefpbnhpncmlaa.EntC Go.Proofs.Ytfefpbnhpncmlaa.EntD Go.Proofs.Ytfefpbnhpncmlaa.EntE Go.Proofs.Ytfefpbnhpncmlaa.EntF Go.Proofs.Ytfefpbnhpncmlaa.CatR Go.Proofs.Ytfefpbnhpncmlaa.CatT Go.Proofs.Ytfefpbnhpncmlaa.CatU Go.Proofs.Ytfefpbnhpncmlaa.CatK Go.Proofs.Ytfefpbnhpncmlaa.CatS Go.Proofs.Ytfefpbnhpncmlaa.CatY Go.Proofs.Ytfefpbnhpncmlaa.RefG Go.Proofs.Ytfefpbnhpncmlaa.PtrB Go.Proofs.Ytfefpbnhpncmlaa.PtrG Go.Proofs.Ytfefpbnhpncmlaa.Agg Go.Proofs.Ytfefpbnhpncmlaa.B8 Go.Proofs.Ytfefpbnhpncmlaa.CodL Go.Proofs.Ytfefpbnhpncmlaa.CodA Go.Proofs.Ytfefpbnhpncmlaa.CodB Go.Proofs.Ytfefpbnhpncmlaa.CatL Go.Proofs.Ytfefpbnhpncmlaa.PtrA Go.Proofs.Ytfefpbnhpncmlaa.PtrE Go.Proofs.Ytfefpbnhpncmlaa.PtrF Go.Proofs.Ytfefpbnhpncmlaa.PBaseSigns Go.Proofs.YtfefpbnhpncmlaaW.PrintWords Go.Proofs.YtfefpbnhpncmlaaW.PrintLast Go.Proofs.YtfefpbnhpncmlaaW.PrintMore Go.Proofs.Ytfefpbnhpncmlaa.EntG Go.Proofs.Ytfefpbnhpncmlaa.StmA Go.Proofs.Ytfefpbnhpncmlaa.StmB Go.Proofs.Ytfefpbnhpncmlaa.StmC Go.Proofs.Ytfefpbnhpncmlaa.CrcC Go.Proofs.Ytfefpbnhpncmlaa.StmD Go.Proofs.Ytfefpbnhpncmlaa.StmE Go.Proofs.Ytfefpbnhpncmlaa.CrcL
set_option linter.unusedVariables false
set_option linter.unusedSimpArgs false

/-- A stream. -/
structure Stm where
  base : ByteArray
  snap : ByteArray
  l : List Chg
/-- A key does not stand ahead of another one. -/
def geB (a b : ByteArray) : Bool := !(Op.bytesLess a.toList b.toList)
/-- A change is right in its place. -/
structure OkC (base : ByteArray) (prev : Option ByteArray) (c : Chg) : Prop where
  key : c.key.size ≤ 160
  inn : c.inn.size ≤ 400
  data : c.data.size ≤ 65536
  up : ∀ p, prev = some p → geB p c.key = false
  gone : c.gone = true → base.size ≠ 0 ∧ c.inn.size = 0 ∧ c.data.size = 0
structure RightS (x : Stm) : Prop where
  snap : namedB x.snap = true
  base : x.base.size ≤ 63
  len : x.l.length ≤ 65536
  all : ∀ i c, x.l[i]? = some c → OkC x.base (if i = 0 then none else (x.l[i - 1]?).map (·.key)) c
def chgL (c : Chg) : List Int := textL c.key ++ (if c.gone then [1] else 0 :: (textL c.inn ++ textL c.data))
def bodyL (x : Stm) : List Int := [83, 66, 88, 83] ++ textL x.base ++ textL x.snap ++ shortL x.l.length ++ x.l.flatMap chgL
def stmL (x : Stm) : List Int := bodyL x ++ fixedL 4 (sumN (bodyL x))
theorem chgL_byt (c : Chg) : Byt (chgL c) := by
  unfold chgL
  refine (textL_byt _).append ?_
  split
  · intro y hy; simp at hy; omega
  · intro y hy
    rcases List.mem_cons.1 hy with rfl | hy
    · decide
    · exact ((textL_byt c.inn).append (textL_byt c.data)) y hy
theorem flatC_byt (l : List Chg) : Byt (l.flatMap chgL) := by
  induction l with
  | nil => intro x hx; simp at hx
  | cons c l ih => rw [List.flatMap_cons]; exact (chgL_byt c).append ih
theorem bodyL_byt (x : Stm) : Byt (bodyL x) := by
  unfold bodyL
  refine ((((?_ : Byt [83, 66, 88, 83]).append (textL_byt _)).append (textL_byt _)).append (shortL_byt _)).append (flatC_byt _)
  intro y hy
  simp at hy
  omega
theorem stmL_byt (x : Stm) : Byt (stmL x) := (bodyL_byt x).append (fixedL_byt _ _)
theorem stmL_len (x : Stm) : (stmL x).length = (bodyL x).length + 4 := by rw [stmL, List.length_append, fixedL_len]
theorem emp_of {s : ByteArray} (h : s.size = 0) : s = emp := by
  obtain ⟨d⟩ := s
  have : d = #[] := Array.eq_empty_of_size_eq_zero h
  rw [this]; rfl
theorem textR_ok (M : Nat) (hM : M ≤ 65536) (s : ByteArray) (hs : s.size ≤ M) (r : List Int) : textR M (textL s ++ r) false = (s, r, false) := by
  unfold textR
  rw [readText_textL s M hs (by omega) r]
  simp
theorem numR_ok (M : Nat) (hM : M ≤ 65536) (n : Nat) (hn : n ≤ M) (r : List Int) : StmD.numR M (shortL n ++ r) false = ((n : Int), r, false) := by
  unfold StmD.numR badN
  rw [readShort_shortL n (by omega) r]
  rw [decide_eq_false (by simp; omega)]
  simp
  exact List.drop_left' rfl
theorem chgR_ok {base : ByteArray} {prev : Option ByteArray} {c : Chg} (h : OkC base prev c) (r : List Int) : chgR (chgL c ++ r) false = (c, r, false) := by
  unfold chgR chgL
  rw [List.append_assoc, textR_ok 160 (by decide) _ h.key]
  cases hg : c.gone with
  | true =>
    obtain ⟨_, h2, h3⟩ := h.gone hg
    have e := numR_ok 1 (by decide) 1 (by decide) r
    rw [shortL_small (by decide)] at e
    simp only [if_true]
    rw [show ([1] : List Int) ++ r = [((1 : Nat) : Int)] ++ r from rfl, e]
    simp only [Int.natCast_one, if_true]
    obtain ⟨k, i, d, g⟩ := c
    simp only at hg h2 h3
    rw [emp_of h2, emp_of h3, hg]
  | false =>
    have e := numR_ok 1 (by decide) 0 (by decide) (textL c.inn ++ textL c.data ++ r)
    rw [shortL_small (by decide)] at e
    simp only [Bool.false_eq_true, if_false]
    rw [show (0 : Int) :: (textL c.inn ++ textL c.data) ++ r = [((0 : Nat) : Int)] ++ (textL c.inn ++ textL c.data ++ r) from by simp, e]
    simp only [Int.natCast_zero]
    rw [if_neg (by decide), List.append_assoc, textR_ok 400 (by decide) _ h.inn, textR_ok 65536 (by decide) _ h.data]
    obtain ⟨k, i, d, g⟩ := c
    simp only at hg
    rw [hg]
end Go.Proofs.Ytfefpbnhpncmlaa.StmL
namespace Go.Proofs.Ytfefpbnhpncmlaa.StmF
open Go.RowKit Go.Proofs.Ytfefpbnhpncmlaa.EntL Go.Proofs.Ytfefpbnhpncmlaa.EntB Go.Proofs.Ytfefpbnhpncmlaa.EntC Go.Proofs.Ytfefpbnhpncmlaa.EntD Go.Proofs.Ytfefpbnhpncmlaa.EntE Go.Proofs.Ytfefpbnhpncmlaa.EntF Go.Proofs.Ytfefpbnhpncmlaa.CatR Go.Proofs.Ytfefpbnhpncmlaa.CatT Go.Proofs.Ytfefpbnhpncmlaa.CatU Go.Proofs.Ytfefpbnhpncmlaa.CatK Go.Proofs.Ytfefpbnhpncmlaa.CatS Go.Proofs.Ytfefpbnhpncmlaa.CatY Go.Proofs.Ytfefpbnhpncmlaa.RefG Go.Proofs.Ytfefpbnhpncmlaa.PtrB Go.Proofs.Ytfefpbnhpncmlaa.PtrG Go.Proofs.Ytfefpbnhpncmlaa.Agg Go.Proofs.Ytfefpbnhpncmlaa.B8 Go.Proofs.Ytfefpbnhpncmlaa.CodL Go.Proofs.Ytfefpbnhpncmlaa.CodA Go.Proofs.Ytfefpbnhpncmlaa.CodB Go.Proofs.Ytfefpbnhpncmlaa.CatL Go.Proofs.Ytfefpbnhpncmlaa.PtrA Go.Proofs.Ytfefpbnhpncmlaa.PtrE Go.Proofs.Ytfefpbnhpncmlaa.PtrF Go.Proofs.Ytfefpbnhpncmlaa.PBaseSigns Go.Proofs.YtfefpbnhpncmlaaW.PrintWords Go.Proofs.YtfefpbnhpncmlaaW.PrintLast Go.Proofs.YtfefpbnhpncmlaaW.PrintMore Go.Proofs.Ytfefpbnhpncmlaa.EntG Go.Proofs.Ytfefpbnhpncmlaa.StmA Go.Proofs.Ytfefpbnhpncmlaa.StmB Go.Proofs.Ytfefpbnhpncmlaa.StmC Go.Proofs.Ytfefpbnhpncmlaa.CrcC Go.Proofs.Ytfefpbnhpncmlaa.StmD Go.Proofs.Ytfefpbnhpncmlaa.StmE Go.Proofs.Ytfefpbnhpncmlaa.CrcL Go.Proofs.Ytfefpbnhpncmlaa.StmL
set_option linter.unusedVariables false
set_option linter.unusedSimpArgs false

/-- A flat kind of four cells. -/
def kF {α : Type} (enc : α → List Value) (h4 : ∀ x, (enc x).length = 4) (h1 : ∀ x, ∀ u ∈ enc x, u.oneCell' = true) : Kd α where
  sz := 4
  E := []
  K := fun _ p cs => cs = enc p
  M := fun _ _ _ p cs => cs = enc p
  K_len := fun h => by rw [h]; exact h4 _
  K_one := fun h u hu => by rw [h] at hu; exact h1 _ u hu
  K_below := fun _ h => h
  K_of_M := fun h => h
  M_mono := fun _ h => h
  M_bound := fun h => h
  M_move := fun _ h => h
  M_lower := fun _ h => h
/-- Where a row of such lies. -/
theorem CF_at {α : Type} [Inhabited α] {enc : α → List Value} {h4 : ∀ x, (enc x).length = 4} {h1 : ∀ x, ∀ u ∈ enc x, u.oneCell' = true} {w : World} {A : Option Addr} {n : Nat} {l : List α} (h : Kd.C (kF enc h4 h1) w A n l) (h0 : 0 < n) :
    ∃ b off, A = some ⟨b, off, none⟩ ∧ b < w.heap.size ∧ ∀ i, i < n → w.rangeAt b (off + i * 4) (enc (l.getD i default)) := by
  have each : ∀ i, i < n → ∃ ad, A = some ad ∧ ∀ j u, (enc (l.getD i default))[j]? = some u → w.cell? (ad.add (i * 4 + j)) = some u := by
    intro i hi
    obtain ⟨ad, c, e, _, hk, hj⟩ := Kd.C_get h default (i : Int) (by omega) (by omega)
    rw [Int.toNat_natCast] at hk hj
    have hk' : c = enc (l.getD i default) := hk
    subst hk'
    exact ⟨ad, e, fun j u hu => hj j u hu⟩
  obtain ⟨ad, e, hc⟩ := each 0 h0
  have hlen := h4 (l.getD 0 default)
  obtain ⟨u0, hu0⟩ : ∃ u, (enc (l.getD 0 default))[0]? = some u := ⟨_, List.getElem?_eq_getElem (by omega)⟩
  have g0 := hc 0 _ hu0
  have hs : ad.spot = none := by
    have := World.cell?_spot g0
    rwa [show ad.add (0 * 4 + 0) = ad from rfl] at this
  obtain ⟨b, off, s⟩ := ad
  simp only at hs
  subst hs
  refine ⟨b, off, e, World.block_lt_of_cell? w _ g0, fun i hi => ?_⟩
  obtain ⟨ad', e', hc'⟩ := each i hi
  rw [e] at e'
  injection e' with e'
  subst e'
  refine fun j u hu => ?_
  have := hc' j u hu
  rwa [show (⟨b, off, none⟩ : Addr).add (i * 4 + j) = ⟨b, off + i * 4 + j, none⟩ from by rw [add_at]; simp [Nat.add_assoc]] at this
/-- A change's four cells in the program. -/
structure Sl where
  A1 : Option Addr
  n1 : Nat
  c1 : Nat
  A2 : Option Addr
  n2 : Nat
  c2 : Nat
  A3 : Option Addr
  n3 : Nat
  c3 : Nat
  g : Bool
instance : Inhabited Sl := ⟨⟨none, 0, 0, none, 0, 0, none, 0, 0, false⟩⟩
instance : Inhabited Chg := ⟨⟨emp, emp, emp, false⟩⟩
abbrev encS (x : Sl) : Array Value := #[.slice x.A1 x.n1 x.c1, .slice x.A2 x.n2 x.c2, .slice x.A3 x.n3 x.c3, .bool x.g]
abbrev encC (x : Chg) : Array Value := #[.string x.key, .string x.inn, .string x.data, .bool x.gone]
def kS : Kd Sl := kF (fun x => (encS x).toList) (fun _ => rfl) (fun x u hu => by simp at hu; rcases hu with rfl | rfl | rfl | rfl <;> rfl)
def kC : Kd Chg := kF (fun x => (encC x).toList) (fun _ => rfl) (fun x u hu => by simp at hu; rcases hu with rfl | rfl | rfl | rfl <;> rfl)
def Sl.ca (w : World) (x : Sl) (c : Chg) : Prop := CA w x.A1 x.n1 x.c1 x.A2 x.n2 x.c2 x.A3 x.n3 x.c3 c ∧ x.g = c.gone
/-- A row of changes in the program. -/
structure CR (w : World) (A : Option Addr) (n : Nat) (xs : List Sl) (l : List Chg) : Prop where
  row : Kd.C kS w A n xs
  len : l.length = n
  each : ∀ i, i < n → (xs.getD i default).ca w (l.getD i default)
theorem CR.below {w w1 : World} {A : Option Addr} {n : Nat} {xs : List Sl} {l : List Chg} (h : CR w A n xs l) (hb : Below w.heap.size w w1) : CR w1 A n xs l :=
  ⟨Kd.C_below h.row hb, h.len, fun i hi => ⟨(h.each i hi).1.below hb, (h.each i hi).2⟩⟩
theorem info133 : (Try.prog.info? 133).map (fun i => (i.zero, i.size, i.bytes)) = some (some (.agg Z133), 4, 80) := by kernel_rfl
abbrev Z140 : Array Value := #[.string ⟨#[]⟩, .string ⟨#[]⟩, .string ⟨#[]⟩, .bool false]
theorem info140 : (Try.prog.info? 140).map (fun i => (i.zero, i.size, i.bytes)) = some (some (.agg Z140), 4, 56) := by kernel_rfl
theorem u140 : Try.prog.underlying 140 = some (.struct (Try.prog.fieldsOf 140)) := by kernel_rfl
theorem u77 : Try.prog.underlying 77 = some (.slice 133) := by kernel_rfl
theorem u83 : Try.prog.underlying 83 = some (.slice 140) := by kernel_rfl
section
variable {ops : Array Oper} {o : Oper} {rest : List Oper} {a : Act} {Q : Exit → Act → World → Prop} {K : Act → World → Prop}
theorem wp_append_S {w0 W : World} (base : Nat) (s x : Operand) (ho : o.op = .call { callee := .builtin .append, args := #[s, x], argTypes := #[77, 77] })
    (v : Value) (xs : List Sl) (p : Sl) (hs : a.eval s = v) (hx : a.eval x = .slice (some ⟨W.heap.size, 0, none⟩) 1 1)
    (HO : Kd.R kS 133 W base (fun _ => True) v xs) (HB : Below base w0 W) (hbase : base ≤ W.heap.size) (hl : xs.length ≤ 100000)
    (h : ∀ v1 w1, Kd.R kS 133 w1 base (fun _ => True) v1 (xs ++ [p]) → Below base w0 w1 → W.grownBy w1 v.ownBlock → (v1.ownBlock = v.ownBlock ∨ ∃ b, v1.ownBlock = some b ∧ W.heap.size ≤ b) → K (a.put o.dst v1) w1) :
    o.wp Try.prog a (W.alloc (.cells (encS p) 133)) K Q := by
  have hop : ({ o with guard := none } : Oper).op = .call { callee := .builtin .append, args := #[s, x], argTypes := #[77, 77] } := ho
  have := Kd.R_append_step (P := Try.prog) (ops := #[]) (o := { o with guard := none }) (a := a) (Q := Q) (Kc := K) kS (w0 := w0) base rfl s x 77 133 (.agg Z133) 80 hop u77 info133 rfl (by decide) (by decide) v xs p (encS p).toList (fun _ => True) (fun _ => False) hs hx rfl (fun _ h => h.elim) (fun _ _ => trivial) HO HB hbase (by omega)
    (fun v1 w1 h1 h2 h3 h4 => h v1 w1 h1 h2 h3 h4)
  have hw : Region.wanted { o with guard := none } (yielded #[] a.tmps) = true := rfl
  rw [if_pos hw] at this
  simp only [Array.toArray_toList] at this
  exact this
theorem wp_append_C {w0 W : World} (base : Nat) (s x : Operand) (ho : o.op = .call { callee := .builtin .append, args := #[s, x], argTypes := #[83, 83] })
    (v : Value) (xs : List Chg) (p : Chg) (hs : a.eval s = v) (hx : a.eval x = .slice (some ⟨W.heap.size, 0, none⟩) 1 1)
    (HO : Kd.R kC 140 W base (fun _ => True) v xs) (HB : Below base w0 W) (hbase : base ≤ W.heap.size) (hl : xs.length ≤ 100000)
    (h : ∀ v1 w1, Kd.R kC 140 w1 base (fun _ => True) v1 (xs ++ [p]) → Below base w0 w1 → W.grownBy w1 v.ownBlock → K (a.put o.dst v1) w1) :
    o.wp Try.prog a (W.alloc (.cells (encC p) 140)) K Q := by
  have hop : ({ o with guard := none } : Oper).op = .call { callee := .builtin .append, args := #[s, x], argTypes := #[83, 83] } := ho
  have := Kd.R_append_step (P := Try.prog) (ops := #[]) (o := { o with guard := none }) (a := a) (Q := Q) (Kc := K) kC (w0 := w0) base rfl s x 83 140 (.agg Z140) 56 hop u83 info140 rfl (by decide) (by decide) v xs p (encC p).toList (fun _ => True) (fun _ => False) hs hx rfl (fun _ h => h.elim) (fun _ _ => trivial) HO HB hbase (by omega)
    (fun v1 w1 h1 h2 h3 _ => h v1 w1 h1 h2 h3)
  have hw : Region.wanted { o with guard := none } (yielded #[] a.tmps) = true := rfl
  rw [if_pos hw] at this
  simp only [Array.toArray_toList] at this
  exact this
/-- A change is loaded out of a row. -/
theorem load_S {w : World} (hgd : o.guard = none) (x : Operand) (ho : o.op = .load 133 x) (b off : Nat) (p : Sl) (hx : a.eval x = .pointer (some ⟨b, off, none⟩)) (hc : w.rangeAt b off (encS p).toList)
    (h : wpList Try.prog ops Q rest (a.put o.dst (.agg (encS p))) w) : wpList Try.prog ops Q (o :: rest) a w := by
  refine wpList_load_mid hgd 133 x ho b off hx (encS p).toList _ hc u133 rfl (by exact i133) ?_
  simpa using h
end
end Go.Proofs.Ytfefpbnhpncmlaa.StmF
namespace Go.Proofs.Ytfefpbnhpncmlaa.StmG
open Go.RowKit Go.Proofs.Ytfefpbnhpncmlaa.EntL Go.Proofs.Ytfefpbnhpncmlaa.EntB Go.Proofs.Ytfefpbnhpncmlaa.EntC Go.Proofs.Ytfefpbnhpncmlaa.EntD Go.Proofs.Ytfefpbnhpncmlaa.EntE Go.Proofs.Ytfefpbnhpncmlaa.EntF Go.Proofs.Ytfefpbnhpncmlaa.CatR Go.Proofs.Ytfefpbnhpncmlaa.CatT Go.Proofs.Ytfefpbnhpncmlaa.CatU Go.Proofs.Ytfefpbnhpncmlaa.CatK Go.Proofs.Ytfefpbnhpncmlaa.CatS Go.Proofs.Ytfefpbnhpncmlaa.CatY Go.Proofs.Ytfefpbnhpncmlaa.RefG Go.Proofs.Ytfefpbnhpncmlaa.PtrB Go.Proofs.Ytfefpbnhpncmlaa.PtrG Go.Proofs.Ytfefpbnhpncmlaa.Agg Go.Proofs.Ytfefpbnhpncmlaa.B8 Go.Proofs.Ytfefpbnhpncmlaa.CodL Go.Proofs.Ytfefpbnhpncmlaa.CodA Go.Proofs.Ytfefpbnhpncmlaa.CodB Go.Proofs.Ytfefpbnhpncmlaa.CatL Go.Proofs.Ytfefpbnhpncmlaa.PtrA Go.Proofs.Ytfefpbnhpncmlaa.PtrE Go.Proofs.Ytfefpbnhpncmlaa.PtrF Go.Proofs.Ytfefpbnhpncmlaa.PBaseSigns Go.Proofs.YtfefpbnhpncmlaaW.PrintWords Go.Proofs.YtfefpbnhpncmlaaW.PrintLast Go.Proofs.YtfefpbnhpncmlaaW.PrintMore Go.Proofs.Ytfefpbnhpncmlaa.EntG Go.Proofs.Ytfefpbnhpncmlaa.StmA Go.Proofs.Ytfefpbnhpncmlaa.StmB Go.Proofs.Ytfefpbnhpncmlaa.StmC Go.Proofs.Ytfefpbnhpncmlaa.CrcC Go.Proofs.Ytfefpbnhpncmlaa.StmD Go.Proofs.Ytfefpbnhpncmlaa.StmE Go.Proofs.Ytfefpbnhpncmlaa.CrcL Go.Proofs.Ytfefpbnhpncmlaa.StmL Go.Proofs.Ytfefpbnhpncmlaa.StmF
set_option linter.unusedVariables false
set_option linter.unusedSimpArgs false

abbrev enc3 (x : Sl) : Array Value := #[.slice x.A1 x.n1 x.c1, .slice x.A2 x.n2 x.c2, .slice x.A3 x.n3 x.c3]
theorem u131 : Try.prog.underlying 131 = some (.struct (Try.prog.fieldsOf 131)) := by kernel_rfl
theorem i131 : (Try.prog.info? 131).map (·.size) = some 3 := by kernel_rfl
theorem range3 {w : World} {b off : Nat} {x : Sl} (h : w.rangeAt b off (encS x).toList) : w.rangeAt b off (enc3 x).toList := fun j u hu => h j u (by
  match j, hu with
  | 0, hu | 1, hu | 2, hu => exact hu
  | n + 3, hu => simp at hu)
section
variable {ops : Array Oper} {o : Oper} {rest : List Oper} {a : Act} {Q : Exit → Act → World → Prop} {K : Act → World → Prop}
theorem load_I {w : World} (hgd : o.guard = none) (x : Operand) (ho : o.op = .load 131 x) (b off : Nat) (p : Sl) (hx : a.eval x = .pointer (some ⟨b, off, none⟩)) (hc : w.rangeAt b off (enc3 p).toList)
    (h : wpList Try.prog ops Q rest (a.put o.dst (.agg (enc3 p))) w) : wpList Try.prog ops Q (o :: rest) a w := by
  refine wpList_load_mid hgd 131 x ho b off hx (enc3 p).toList _ hc u131 rfl (by exact i131) ?_
  simpa using h
theorem wp_one_C {w : World} (x : Operand) (ho : o.op = .buildSlice 83 1 #[(0, x)]) (p : Chg) (hx : a.eval x = .agg (encC p))
    (h : K (a.put o.dst (.slice (some ⟨w.heap.size, 0, none⟩) 1 1)) (w.alloc (.cells (encC p) 140))) : o.wp Try.prog a w K Q := by
  unfold Oper.wp execOp
  have hm : (#[(0, x)] : Array (Nat × Operand)).map (fun (i, x) => (i, a.eval x)) = #[(0, .agg (encC p))] := by simp [hx]
  have hr : (Instr.buildSlice 83 1 #[(0, .agg (encC p))]).run Try.prog w = .ok (.slice (some ⟨w.heap.size, 0, none⟩) 1 1) (w.alloc (.cells (encC p) 140)) := by kernel_rfl
  simp only [ho]
  rw [hm]
  simp only [Sem.run_bind, Sem.run_pure, Result.andThen_ok, hr]
  exact h
end
set_option maxRecDepth 100000 in
set_option maxHeartbeats 1000000 in
theorem own_calls (A : Option Addr) (c n : Nat) (xs : List Sl) (l : List Chg) (w : World) (h : CR w A n xs l) (hm : n ≤ 100000) :
    Calls Try.prog 48 #[.slice A n c] w fun e w' => ∃ v, e = .returned v ∧ Kd.R kC 140 w' w.heap.size (fun _ => True) v l ∧ Below w.heap.size w w' := by
  obtain ⟨P, hP⟩ : ∃ P : Ending → World → Prop, P = (fun e w' => ∃ v, e = .returned v ∧ Kd.R kC 140 w' w.heap.size (fun _ => True) v l ∧ Below w.heap.size w w') := ⟨_, rfl⟩
  rw [← hP]
  have HP := Aside0.mk hP
  have H := Aside0.mk h
  clear hP h
  go_enter Try.func48, Try.ntmps48
  go_wp2
  go_loopw [3, 4] (fun v3 v4 wr => ∃ (j : Nat), v4 = .int .i64 (j : Int) ∧ j ≤ n ∧ Aside0 (Kd.R kC 140 wr w.heap.size (fun _ => True) v3 (l.take j)) ∧ Aside0 (Below w.heap.size w wr)) (fun _ v _ => n - (intOf v).toNat)
  case atStart => exact ⟨0, rfl, Nat.zero_le _, ⟨Kd.R_nil _ _ _ _ _⟩, ⟨Below.refl _ _⟩⟩
  case round =>
    obtain ⟨j, rfl, hj, HR, HB⟩ := hrel
    by_cases hlt : j < n
    · obtain ⟨b, off, rfl, hb, hx⟩ := CF_at H.out.row (by omega)
      have hxj := hx j hlt
      have hca := H.out.each j hlt
      obtain ⟨p, hp⟩ : ∃ p, p = xs.getD j default := ⟨_, rfl⟩
      obtain ⟨y, hy⟩ : ∃ y, y = l.getD j default := ⟨_, rfl⟩
      rw [← hp] at hxj hca
      rw [← hy] at hca
      have HX := Aside0.mk (rangeAt_below hxj HB.out hb)
      have HY := Aside0.mk (show l.take (j + 1) = l.take j ++ [y] by
        have hl := H.out.len
        rw [List.take_add_one, List.getElem?_eq_getElem (by omega), hy, List.getD_eq_getElem?_getD, List.getElem?_eq_getElem (by omega)]; rfl)
      have HXW := Aside0.mk hxj
      obtain ⟨key, inn, data, g'⟩ := y
      obtain ⟨A1, n1, c1, A2, n2, c2, A3, n3, c3, g⟩ := p
      obtain rfl : g = g' := hca.2
      have HCA := Aside0.mk hca.1
      have hszb := HB.out.size
      clear hx hxj hca hp hy
      go_wp2_with (refine load_I rfl (.tmp 15) rfl b (off + j * 4) ⟨A1, n1, c1, A2, n2, c2, A3, n3, c3, g⟩ rfl (range3 HX.out) ?_)
      have HO := Aside0.mk (Kd.R_below HR.out (below_drew (below_alloc (Below.refl wr.heap.size wr) (.cells #[.slice A1 n1 c1, .slice A2 n2 c2, .slice A3 n3 c3] 131))))
      have HBW := Aside0.mk (below_then HB.out hszb (below_drew (below_alloc (Below.refl wr.heap.size wr) (.cells #[.slice A1 n1 c1, .slice A2 n2 c2, .slice A3 n3 c3] 131))))
      have h5 : (wr.alloc (.cells #[.slice A1 n1 c1, .slice A2 n2 c2, .slice A3 n3 c3] 131)).drew.heap[wr.heap.size]? = some (.cells #[.slice A1 n1 c1, .slice A2 n2 c2, .slice A3 n3 c3] 131 (0, 0)) := blk_below (blk_new wr (.cells #[.slice A1 n1 c1, .slice A2 n2 c2, .slice A3 n3 c3] 131)) (below_drew (Below.refl _ _))
      have hsW : w.heap.size ≤ (wr.alloc (.cells #[.slice A1 n1 c1, .slice A2 n2 c2, .slice A3 n3 c3] 131)).drew.heap.size := HBW.out.size
      refine wp_region_held_drew (S := fun w' => Below w.heap.size w w' ∧ w'.heap[wr.heap.size]? = some (.cells #[.slice A1 n1 c1, .slice A2 n2 c2, .slice A3 n3 c3] 131 (0, 0))) (by kernel_rfl) ⟨HBW.out, h5⟩ (fun hW => ?_)
      clear h5
      generalize (wr.alloc (.cells #[.slice A1 n1 c1, .slice A2 n2 c2, .slice A3 n3 c3] 131)).drew = W at *
      refine wpAnyH_take (i := 0) (oi := ⟨some 17, _, _, _, _, _⟩) (v := u3) rfl (by kernel_rfl) (by kernel_rfl) (by kernel_rfl) (fun _ _ _ h => h) (.inl ⟨by rfl, fun W1 h1 => by go_simp⟩) hW ?_
      try simp only [Act.put, List.setIfInBounds_toArray, List.set_cons_zero, List.set_cons_succ]
      refine wpAnyH_take (i := 1) (oi := ⟨some 18, _, _, _, _, _⟩) (v := .pointer (some ⟨wr.heap.size, 0, none⟩)) rfl (by kernel_rfl) (by kernel_rfl) (by kernel_rfl) (fun _ _ _ h => h) (.inl ⟨by rfl, fun W1 h1 => by go_simp⟩) hW ?_
      try simp only [Act.put, List.setIfInBounds_toArray, List.set_cons_zero, List.set_cons_succ]
      refine wpAnyH_take (i := 2) (oi := ⟨some 19, _, _, _, _, _⟩) (v := .slice A1 n1 c1) rfl (by kernel_rfl) (by kernel_rfl) (by kernel_rfl) (fun _ _ _ h => h) (.inl ⟨by rfl, fun W1 h1 => by (have x1 : W1.cell? ⟨wr.heap.size, 0, none⟩ = some (.slice A1 n1 c1) := (by rw [cell_of_row _ _ 0 _ 131 (0, 0) h1.2]; rfl)); go_simp⟩) hW ?_
      try simp only [Act.put, List.setIfInBounds_toArray, List.set_cons_zero, List.set_cons_succ]
      refine wpAnyH_take (i := 3) (oi := ⟨some 20, _, _, _, _, _⟩) (v := .string key) rfl (by kernel_rfl) (by kernel_rfl) (by kernel_rfl) (fun _ _ _ h => h) (.inl ⟨by rfl, fun W1 h1 => by (have x1 := Kd.C_string (c := c1) (P := Try.prog) Try.underlying31 Try.underlying5 Try.underlying9 (Kd.C_below HCA.out.k h1.1)); rw [str_bytes] at x1; go_simp⟩) hW ?_
      try simp only [Act.put, List.setIfInBounds_toArray, List.set_cons_zero, List.set_cons_succ]
      refine wpAnyH_take (i := 4) (oi := ⟨some 21, _, _, _, _, _⟩) (v := .pointer (some ⟨wr.heap.size, 1, none⟩)) rfl (by kernel_rfl) (by kernel_rfl) (by kernel_rfl) (fun _ _ _ h => h) (.inl ⟨by rfl, fun W1 h1 => by go_simp⟩) hW ?_
      try simp only [Act.put, List.setIfInBounds_toArray, List.set_cons_zero, List.set_cons_succ]
      refine wpAnyH_take (i := 5) (oi := ⟨some 22, _, _, _, _, _⟩) (v := .slice A2 n2 c2) rfl (by kernel_rfl) (by kernel_rfl) (by kernel_rfl) (fun _ _ _ h => h) (.inl ⟨by rfl, fun W1 h1 => by (have x1 : W1.cell? ⟨wr.heap.size, 1, none⟩ = some (.slice A2 n2 c2) := (by rw [cell_of_row _ _ 1 _ 131 (0, 0) h1.2]; rfl)); go_simp⟩) hW ?_
      try simp only [Act.put, List.setIfInBounds_toArray, List.set_cons_zero, List.set_cons_succ]
      refine wpAnyH_take (i := 6) (oi := ⟨some 23, _, _, _, _, _⟩) (v := .string inn) rfl (by kernel_rfl) (by kernel_rfl) (by kernel_rfl) (fun _ _ _ h => h) (.inl ⟨by rfl, fun W1 h1 => by (have x1 := Kd.C_string (c := c2) (P := Try.prog) Try.underlying31 Try.underlying5 Try.underlying9 (Kd.C_below HCA.out.i h1.1)); rw [str_bytes] at x1; go_simp⟩) hW ?_
      try simp only [Act.put, List.setIfInBounds_toArray, List.set_cons_zero, List.set_cons_succ]
      refine wpAnyH_take (i := 7) (oi := ⟨some 24, _, _, _, _, _⟩) (v := .pointer (some ⟨wr.heap.size, 2, none⟩)) rfl (by kernel_rfl) (by kernel_rfl) (by kernel_rfl) (fun _ _ _ h => h) (.inl ⟨by rfl, fun W1 h1 => by go_simp⟩) hW ?_
      try simp only [Act.put, List.setIfInBounds_toArray, List.set_cons_zero, List.set_cons_succ]
      refine wpAnyH_take (i := 8) (oi := ⟨some 25, _, _, _, _, _⟩) (v := .slice A3 n3 c3) rfl (by kernel_rfl) (by kernel_rfl) (by kernel_rfl) (fun _ _ _ h => h) (.inl ⟨by rfl, fun W1 h1 => by (have x1 : W1.cell? ⟨wr.heap.size, 2, none⟩ = some (.slice A3 n3 c3) := (by rw [cell_of_row _ _ 2 _ 131 (0, 0) h1.2]; rfl)); go_simp⟩) hW ?_
      try simp only [Act.put, List.setIfInBounds_toArray, List.set_cons_zero, List.set_cons_succ]
      refine wpAnyH_take (i := 9) (oi := ⟨some 26, _, _, _, _, _⟩) (v := .string data) rfl (by kernel_rfl) (by kernel_rfl) (by kernel_rfl) (fun _ _ _ h => h) (.inl ⟨by rfl, fun W1 h1 => by (have x1 := Kd.C_string (c := c3) (P := Try.prog) Try.underlying31 Try.underlying5 Try.underlying9 (Kd.C_below HCA.out.d h1.1)); rw [str_bytes] at x1; go_simp⟩) hW ?_
      try simp only [Act.put, List.setIfInBounds_toArray, List.set_cons_zero, List.set_cons_succ]
      refine wpAnyH_take (i := 10) (oi := ⟨some 27, _, _, _, _, _⟩) (v := .agg #[.string key, .string inn, .string data]) rfl (by kernel_rfl) (by kernel_rfl) (by kernel_rfl) (fun _ _ _ h => h) (.inl ⟨by rfl, fun W1 h1 => by go_simp⟩) hW ?_
      try simp only [Act.put, List.setIfInBounds_toArray, List.set_cons_zero, List.set_cons_succ]
      refine wpAnyH_take (i := 11) (oi := ⟨some 28, _, _, _, _, _⟩) (v := .slice (some ⟨b, off, none⟩) n c) rfl (by kernel_rfl) (by kernel_rfl) (by kernel_rfl) (fun _ _ _ h => h) (.inl ⟨by rfl, fun W1 h1 => by go_simp⟩) hW ?_
      try simp only [Act.put, List.setIfInBounds_toArray, List.set_cons_zero, List.set_cons_succ]
      refine wpAnyH_take (i := 12) (oi := ⟨some 29, _, _, _, _, _⟩) (v := .int .i64 (j : Int)) rfl (by kernel_rfl) (by kernel_rfl) (by kernel_rfl) (fun _ _ _ h => h) (.inl ⟨by rfl, fun W1 h1 => by go_simp⟩) hW ?_
      try simp only [Act.put, List.setIfInBounds_toArray, List.set_cons_zero, List.set_cons_succ]
      refine wpAnyH_take (i := 13) (oi := ⟨some 30, _, _, _, _, _⟩) (v := .pointer (some ⟨b, off + j * 4, none⟩)) rfl (by kernel_rfl) (by kernel_rfl) (by kernel_rfl) (fun _ _ _ h => h) (.inl ⟨by rfl, fun W1 h1 => by go_simp⟩) hW ?_
      try simp only [Act.put, List.setIfInBounds_toArray, List.set_cons_zero, List.set_cons_succ]
      refine wpAnyH_take (i := 14) (oi := ⟨some 31, _, _, _, _, _⟩) (v := .pointer (some ⟨b, off + j * 4 + 3, none⟩)) rfl (by kernel_rfl) (by kernel_rfl) (by kernel_rfl) (fun _ _ _ h => h) (.inl ⟨by rfl, fun W1 h1 => by go_simp⟩) hW ?_
      try simp only [Act.put, List.setIfInBounds_toArray, List.set_cons_zero, List.set_cons_succ]
      refine wpAnyH_take (i := 15) (oi := ⟨some 32, _, _, _, _, _⟩) (v := .bool g) rfl (by kernel_rfl) (by kernel_rfl) (by kernel_rfl) (fun _ _ _ h => h) (.inl ⟨by rfl, fun W1 h1 => by (have x1 : W1.cell? ⟨b, off + j * 4 + 3, none⟩ = some (.bool g) := (rangeAt_below HXW.out h1.1 hb) 3 _ rfl); go_simp⟩) hW ?_
      try simp only [Act.put, List.setIfInBounds_toArray, List.set_cons_zero, List.set_cons_succ]
      refine wpAnyH_take (i := 16) (oi := ⟨some 33, _, _, _, _, _⟩) (v := .agg #[.string key, .string inn, .string data, .bool g]) rfl (by kernel_rfl) (by kernel_rfl) (by kernel_rfl) (fun _ _ _ h => h) (.inl ⟨by rfl, fun W1 h1 => by go_simp⟩) hW ?_
      try simp only [Act.put, List.setIfInBounds_toArray, List.set_cons_zero, List.set_cons_succ]
      refine wpAnyH_ready (rs := [17]) (by kernel_rfl) (by simp) (AllReadyH.cons rfl (fun K1 hK1 => ?_) AllReadyH.nil)
      refine wp_one_C (o := ⟨some 34, _, _, _, _, _⟩) (.tmp 33) rfl ⟨key, inn, data, g⟩ rfl ?_
      have hW2 : Below w.heap.size w (W.alloc (.cells (encC ⟨key, inn, data, g⟩) 140)) ∧ (W.alloc (.cells (encC ⟨key, inn, data, g⟩) 140)).heap[wr.heap.size]? = some (.cells #[.slice A1 n1 c1, .slice A2 n2 c2, .slice A3 n3 c3] 131 (0, 0)) := ⟨hW.1.alloc hW.1.size _, blk_below hW.2 (below_alloc (Below.refl _ W) _)⟩
      refine hK1.out _ _ hW2 (fun _ => ?_)
      try simp only [Act.put, List.setIfInBounds_toArray, List.set_cons_zero, List.set_cons_succ]
      refine wpAnyH_ready (rs := [18]) (by kernel_rfl) (by simp) (AllReadyH.cons rfl (fun K2 hK2 => ?_) AllReadyH.nil)
      refine wp_append_C (o := ⟨some 35, _, _, _, _, _⟩) (w0 := w) w.heap.size (.tmp 17) (.tmp 34) rfl u3 (l.take j) ⟨key, inn, data, g⟩ rfl rfl HO.out HBW.out hsW (by rw [List.length_take]; omega) ?_
      intro v1 w1 hr1 hb1 hg1
      have n1_ := Kd.R_ne HO.out hW.2 (by decide)
      have hv1 := blk_grown hW.2 hg1 n1_
      rw [← HY.out] at hr1
      have HR1 := Aside0.mk hr1
      have HB1 := Aside0.mk hb1
      clear hr1 hg1 n1_
      refine hK2.out _ _ ⟨hb1, hv1⟩ (fun hW => ?_)
      try simp only [Act.put, List.setIfInBounds_toArray, List.set_cons_zero, List.set_cons_succ]
      refine wpAnyH_take (i := 19) (oi := ⟨some 3, _, _, _, _, _⟩) (v := v1) rfl (by kernel_rfl) (by kernel_rfl) (by kernel_rfl) (fun _ _ _ h => h) (.inl ⟨by rfl, fun W1 h1 => by go_simp⟩) hW ?_
      try simp only [Act.put, List.setIfInBounds_toArray, List.set_cons_zero, List.set_cons_succ]
      refine wpAnyH_done (by kernel_rfl) ?_ _
      clear hW hW2 hK1 hK2 K1 K2 hb1 hv1
      go_wp2
      go_roundw
      case rel => exact ⟨j + 1, by go_num, by omega, HR1, HB1⟩
      case measure => simp [intOf]; omega
    · go_wp2
      rw [HP.out]
      have HR' := HR.out
      rw [show j = l.length by have := H.out.len; omega, List.take_length] at HR'
      exact ⟨_, rfl, HR', HB.out⟩
end Go.Proofs.Ytfefpbnhpncmlaa.StmG
namespace Go.Proofs.Ytfefpbnhpncmlaa.StmH
open Go.RowKit Go.Proofs.Ytfefpbnhpncmlaa.EntL Go.Proofs.Ytfefpbnhpncmlaa.EntB Go.Proofs.Ytfefpbnhpncmlaa.EntC Go.Proofs.Ytfefpbnhpncmlaa.EntD Go.Proofs.Ytfefpbnhpncmlaa.EntE Go.Proofs.Ytfefpbnhpncmlaa.EntF Go.Proofs.Ytfefpbnhpncmlaa.CatR Go.Proofs.Ytfefpbnhpncmlaa.CatT Go.Proofs.Ytfefpbnhpncmlaa.CatU Go.Proofs.Ytfefpbnhpncmlaa.CatK Go.Proofs.Ytfefpbnhpncmlaa.CatS Go.Proofs.Ytfefpbnhpncmlaa.CatY Go.Proofs.Ytfefpbnhpncmlaa.RefG Go.Proofs.Ytfefpbnhpncmlaa.PtrB Go.Proofs.Ytfefpbnhpncmlaa.PtrG Go.Proofs.Ytfefpbnhpncmlaa.Agg Go.Proofs.Ytfefpbnhpncmlaa.B8 Go.Proofs.Ytfefpbnhpncmlaa.CodL Go.Proofs.Ytfefpbnhpncmlaa.CodA Go.Proofs.Ytfefpbnhpncmlaa.CodB Go.Proofs.Ytfefpbnhpncmlaa.CatL Go.Proofs.Ytfefpbnhpncmlaa.PtrA Go.Proofs.Ytfefpbnhpncmlaa.PtrE Go.Proofs.Ytfefpbnhpncmlaa.PtrF Go.Proofs.Ytfefpbnhpncmlaa.PBaseSigns Go.Proofs.YtfefpbnhpncmlaaW.PrintWords Go.Proofs.YtfefpbnhpncmlaaW.PrintLast Go.Proofs.YtfefpbnhpncmlaaW.PrintMore Go.Proofs.Ytfefpbnhpncmlaa.EntG Go.Proofs.Ytfefpbnhpncmlaa.StmA Go.Proofs.Ytfefpbnhpncmlaa.StmB Go.Proofs.Ytfefpbnhpncmlaa.StmC Go.Proofs.Ytfefpbnhpncmlaa.CrcC Go.Proofs.Ytfefpbnhpncmlaa.StmD Go.Proofs.Ytfefpbnhpncmlaa.StmE Go.Proofs.Ytfefpbnhpncmlaa.CrcL Go.Proofs.Ytfefpbnhpncmlaa.StmL Go.Proofs.Ytfefpbnhpncmlaa.StmF Go.Proofs.Ytfefpbnhpncmlaa.StmG
set_option linter.unusedVariables false
set_option linter.unusedSimpArgs false

theorem agg9 (w : World) : (isAgg 9).run Try.prog w = .ok false w := by kernel_rfl
theorem agg4 (w : World) : (isAgg 4).run Try.prog w = .ok false w := by kernel_rfl
theorem agg138 (w : World) : (isAgg 138).run Try.prog w = .ok true w := by kernel_rfl
theorem sz138 (w : World) : (sizeOf 138).run Try.prog w = .ok 3 w := by kernel_rfl
theorem u138 : Try.prog.underlying 138 = some (.struct (Try.prog.fieldsOf 138)) := by kernel_rfl
theorem fields138 : (Try.prog.fieldsOf 138).toList.map (fun f => (f.name, f.type, f.offset)) = [("Key", 9, 0), ("In", 9, 1), ("Data", 9, 2)] := by kernel_rfl
theorem stood138 : Try.prog.stoodInHeld 138 = false := by kernel_rfl
theorem fields140 : (Try.prog.fieldsOf 140).toList.map (fun f => (f.name, f.type, f.offset)) = [("Item", 138, 0), ("Gone", 4, 3)] := by kernel_rfl
theorem stood140 : Try.prog.stoodInHeld 140 = false := by kernel_rfl
theorem eq138 (k i d : ByteArray) (w : World) : (Op.equalIn 9999 138 (.agg #[.string k, .string i, .string d]) (.agg #[.string k, .string i, .string d])).run Try.prog w = .ok true w := by
  rw [show (9999 : Nat) = 9998 + 1 from rfl, run_equalIn_struct w 9998 138 _ _ u138 stood138]
  have hf := fields138
  generalize (Try.prog.fieldsOf 138).toList = fs at hf
  rcases fs with _ | ⟨f0, fs⟩; · simp at hf
  rcases fs with _ | ⟨f1, fs⟩; · simp at hf
  rcases fs with _ | ⟨f2, fs⟩; · simp at hf
  rcases fs with _ | ⟨f3, fs⟩
  · simp only [List.map_cons, List.map_nil, List.cons.injEq, Prod.mk.injEq, and_true] at hf
    obtain ⟨⟨n0, t0, o0⟩, ⟨n1, t1, o1⟩, n2, t2, o2⟩ := hf
    have a0 : ∀ w : World, (part 9 #[.string k, .string i, .string d] 0).run Try.prog w = .ok (.string k) w := fun w => by simp [part, Sem.run_bind, agg9]
    have a1 : ∀ w : World, (part 9 #[.string k, .string i, .string d] 1).run Try.prog w = .ok (.string i) w := fun w => by simp [part, Sem.run_bind, agg9]
    have a2 : ∀ w : World, (part 9 #[.string k, .string i, .string d] 2).run Try.prog w = .ok (.string d) w := fun w => by simp [part, Sem.run_bind, agg9]
    have q9 : ∀ (x : ByteArray) (w : World), (Op.equalIn 9998 9 (.string x) (.string x)).run Try.prog w = .ok true w := fun x w => by
      have := run_equalIn_string (P := Try.prog) w 9997 9 x x Try.underlying9
      simpa using this
    have m0 : ("Key" = "_") = False := by decide
    have m1 : ("In" = "_") = False := by decide
    have m2 : ("Data" = "_") = False := by decide
    simp [Op.eqFields, n0, n1, n2, t0, t1, t2, o0, o1, o2, a0, a1, a2, q9, Result.andThen]
  · simp at hf
theorem eq140 (c : Chg) (w : World) : (Op.equalIn 10000 140 (.agg (encC c)) (.agg (encC c))).run Try.prog w = .ok true w := by
  rw [show (10000 : Nat) = 9999 + 1 from rfl, run_equalIn_struct w 9999 140 _ _ u140 stood140]
  obtain ⟨k, i, d, g⟩ := c
  have hf := fields140
  generalize (Try.prog.fieldsOf 140).toList = fs at hf
  rcases fs with _ | ⟨f0, fs⟩; · simp at hf
  rcases fs with _ | ⟨f1, fs⟩; · simp at hf
  rcases fs with _ | ⟨f2, fs⟩
  · simp only [List.map_cons, List.map_nil, List.cons.injEq, Prod.mk.injEq, and_true] at hf
    obtain ⟨⟨n0, t0, o0⟩, n1, t1, o1⟩ := hf
    have a0 : ∀ w : World, (part 138 #[.string k, .string i, .string d, .bool g] 0).run Try.prog w = .ok (.agg #[.string k, .string i, .string d]) w := fun w => by
      simp only [part, Sem.run_bind, agg138, sz138, Result.andThen_ok, if_true, Sem.run_pure]
      rfl
    have a1 : ∀ w : World, (part 4 #[.string k, .string i, .string d, .bool g] 3).run Try.prog w = .ok (.bool g) w := fun w => by simp [part, Sem.run_bind, agg4]
    have q8 := eq138 k i d
    have q4 : ∀ (w : World), (Op.equalIn 9999 4 (.bool g) (.bool g)).run Try.prog w = .ok true w := fun w => by cases g <;> kernel_rfl
    have m0 : ("Item" = "_") = False := by decide
    have m1 : ("Gone" = "_") = False := by decide
    simp [Op.eqFields, n0, n1, t0, t1, o0, o1, a0, a1, q8, q4, Result.andThen]
  · simp at hf
theorem neq140 (c : Chg) (w : World) : (binOp .neq 140 (.agg (encC c)) (.agg (encC c))).run Try.prog w = .ok (.bool false) w := by
  rw [run_neq_struct, eq140 c w]
  rfl

theorem yieldsIf_load_C {ops : Array Oper} {S : World → Prop} {op : Oper} {a : Act} (hw : Region.wanted op (yielded ops a.tmps) = true) (x : Operand) (ho : op.op = .load 140 x)
    (b o : Nat) (p : Chg) (hx : a.eval x = .pointer (some ⟨b, o, none⟩)) (hS : ∀ w, S w → w.rangeAt b o (encC p).toList) : YieldsIf Try.prog ops S op (.agg (encC p)) a := by
  have := yieldsIf_load_mid (P := Try.prog) (S := S) hw 140 x ho b o hx (encC p).toList _ hS u140 rfl (by kernel_rfl)
  simpa using this
set_option maxRecDepth 100000 in
set_option maxHeartbeats 1000000 in
theorem same_calls (A1 A2 : Option Addr) (c1 c2 n : Nat) (l : List Chg) (w : World) (h1 : Kd.C kC w A1 n l) (h2 : Kd.C kC w A2 n l) (hm : n ≤ 100000) :
    Calls Try.prog 51 #[.slice A1 n c1, .slice A2 n c2] w fun e w' => e = .returned (.bool true) ∧ Below w.heap.size w w' := by
  obtain ⟨P, hP⟩ : ∃ P : Ending → World → Prop, P = (fun e w' => e = .returned (.bool true) ∧ Below w.heap.size w w') := ⟨_, rfl⟩
  rw [← hP]
  have HP := Aside0.mk hP
  have H := Aside0.mk (And.intro h1 h2)
  clear hP h1 h2
  go_enter Try.func51, Try.ntmps51
  go_wp2
  go_loopw [5] (fun v5 wr => ∃ (j : Nat), v5 = .int .i64 (j : Int) ∧ j ≤ n ∧ Aside0 (Below w.heap.size w wr)) (fun v _ => n - (intOf v).toNat)
  case atStart => exact ⟨0, rfl, Nat.zero_le _, ⟨Below.refl _ _⟩⟩
  case round =>
    obtain ⟨j, rfl, hj, HB⟩ := hrel
    by_cases hlt : j < n
    · obtain ⟨b1, o1, rfl, hb1, hx1⟩ := CF_at H.out.1 (by omega)
      obtain ⟨b2, o2, rfl, hb2, hx2⟩ := CF_at H.out.2 (by omega)
      have HX1 := Aside0.mk (hx1 j hlt)
      have HX2 := Aside0.mk (hx2 j hlt)
      generalize l.getD j default = y at *
      have hq := neq140 y
      have hbw := Aside0.mk (below_drew HB.out)
      clear hx1 hx2
      go_wp2
      refine wp_region_held_drew (S := fun w' => Below w.heap.size w w') (by kernel_rfl) hbw.out (fun hW => ?_)
      refine wpAnyH_take (i := 0) (oi := ⟨some 17, _, _, _, _, _⟩) (v := .slice (some ⟨b1, o1, none⟩) n c1) rfl (by kernel_rfl) (by kernel_rfl) (by kernel_rfl) (fun _ _ _ h => h) (.inl ⟨by rfl, fun W1 h1 => by go_simp⟩) hW ?_
      try simp only [Act.put, List.setIfInBounds_toArray, List.set_cons_zero, List.set_cons_succ]
      refine wpAnyH_take (i := 1) (oi := ⟨some 18, _, _, _, _, _⟩) (v := .int .i64 (j : Int)) rfl (by kernel_rfl) (by kernel_rfl) (by kernel_rfl) (fun _ _ _ h => h) (.inl ⟨by rfl, fun W1 h1 => by go_simp⟩) hW ?_
      try simp only [Act.put, List.setIfInBounds_toArray, List.set_cons_zero, List.set_cons_succ]
      refine wpAnyH_take (i := 2) (oi := ⟨some 19, _, _, _, _, _⟩) (v := .pointer (some ⟨b1, o1 + j * 4, none⟩)) rfl (by kernel_rfl) (by kernel_rfl) (by kernel_rfl) (fun _ _ _ h => h) (.inl ⟨by rfl, fun W1 h1 => by go_simp⟩) hW ?_
      try simp only [Act.put, List.setIfInBounds_toArray, List.set_cons_zero, List.set_cons_succ]
      refine wpAnyH_take (i := 3) (oi := ⟨some 20, _, _, _, _, _⟩) rfl (by kernel_rfl) (by kernel_rfl) (by kernel_rfl) (fun _ _ _ h => h) (yieldsIf_load_C (by rfl) _ rfl b1 (o1 + j * 4) y rfl (fun _ h => rangeAt_below HX1.out h hb1)) hW ?_
      try simp only [Act.put, List.setIfInBounds_toArray, List.set_cons_zero, List.set_cons_succ]
      refine wpAnyH_take (i := 4) (oi := ⟨some 21, _, _, _, _, _⟩) (v := .slice (some ⟨b2, o2, none⟩) n c2) rfl (by kernel_rfl) (by kernel_rfl) (by kernel_rfl) (fun _ _ _ h => h) (.inl ⟨by rfl, fun W1 h1 => by go_simp⟩) hW ?_
      try simp only [Act.put, List.setIfInBounds_toArray, List.set_cons_zero, List.set_cons_succ]
      refine wpAnyH_take (i := 5) (oi := ⟨some 22, _, _, _, _, _⟩) (v := .int .i64 (j : Int)) rfl (by kernel_rfl) (by kernel_rfl) (by kernel_rfl) (fun _ _ _ h => h) (.inl ⟨by rfl, fun W1 h1 => by go_simp⟩) hW ?_
      try simp only [Act.put, List.setIfInBounds_toArray, List.set_cons_zero, List.set_cons_succ]
      refine wpAnyH_take (i := 6) (oi := ⟨some 23, _, _, _, _, _⟩) (v := .pointer (some ⟨b2, o2 + j * 4, none⟩)) rfl (by kernel_rfl) (by kernel_rfl) (by kernel_rfl) (fun _ _ _ h => h) (.inl ⟨by rfl, fun W1 h1 => by go_simp⟩) hW ?_
      try simp only [Act.put, List.setIfInBounds_toArray, List.set_cons_zero, List.set_cons_succ]
      refine wpAnyH_take (i := 7) (oi := ⟨some 24, _, _, _, _, _⟩) rfl (by kernel_rfl) (by kernel_rfl) (by kernel_rfl) (fun _ _ _ h => h) (yieldsIf_load_C (by rfl) _ rfl b2 (o2 + j * 4) y rfl (fun _ h => rangeAt_below HX2.out h hb2)) hW ?_
      try simp only [Act.put, List.setIfInBounds_toArray, List.set_cons_zero, List.set_cons_succ]
      refine wpAnyH_take (i := 8) (oi := ⟨some 25, _, _, _, _, _⟩) (v := .bool false) rfl (by kernel_rfl) (by kernel_rfl) (by kernel_rfl) (fun _ _ _ h => h) (.inl ⟨by rfl, fun W1 h1 => by (have x1 := hq W1; go_simp)⟩) hW ?_
      try simp only [Act.put, List.setIfInBounds_toArray, List.set_cons_zero, List.set_cons_succ]
      refine wpAnyH_done (by kernel_rfl) ?_ _
      clear hW hq
      go_wp2
      go_roundw
      case rel => exact ⟨j + 1, by go_num, by omega, hbw⟩
      case measure => simp [intOf]; omega
    · go_wp2
      rw [HP.out]
      exact ⟨rfl, HB.out⟩
end Go.Proofs.Ytfefpbnhpncmlaa.StmH
