/- Own texts, one behind the other, each with what the claim uses of it: WLast WTab WFour WQPut WApart WArr WZeros WFoot WKept WShare WN WFootNe WAt WEqStruct WRepsOne WInv WInvWords WGuard WNEv WMore PVerifyFormsx0 B8 CodL CatL Agg Stub ExtL CrcL CrcA CrcB CrcC ExtA ExtB ExtC ExtD ExtE ExtF ExtG DskA DskB ShaA ShaB ShaK ShaC. -/
import Derived.Test.YtchhdafgmifhdaaGreatChecked
import GoSem.Claim
import GoSem.ClaimJoined
import GoSem.ClaimMapViews
import Derived.JoinedTies
import Derived.KernelRfl
import Derived.Test.YtchhdafgmifhdaaGreatProg
import Derived.Below
import Derived.Deep.Draws
import Derived.Deep.AppendLies
import Derived.Maps.AppendAt
import Derived.OwnWalk
import Derived.Laws.BytesArg
import Derived.Laws.MakeOwn
import Derived.Laws.OwnMore
import Derived.Deep.OwnRows
import Derived.Tactics
import Derived.Lib.ConvBytes
import Derived.Laws.Slices
import Derived.WalkKit
import Derived.RowKit3
import Derived.Deep.LoopGhost
import Derived.Deep.QuietTactic
import Derived.BigQuiet
import Derived.WideLaws
import Derived.Deep.DeepCutAuto
import Derived.Deep.CutBlock
import Derived.Deep.RegionHeld3
import Derived.Laws.Rows
import Derived.Lib.AppendStr
import Derived.ArgAppend
import Derived.Laws.IdiomCopy
import Derived.OrdersHeld
import Derived.Laws.BitsLemmas
import Derived.RowKit
import Derived.Laws.StructEq
import Derived.Deep.Slices
import Derived.WalkSpells
import Derived.WalkSmall
import Derived.Laws.Tables
import Derived.Deep.WholeRow
import Derived.StillTailTactics
import Derived.MapKept
import Derived.Laws.CopyOwn
import Derived.Maps.RangeRun
import Derived.Deep.MidRow
import Derived.Laws.Cover3
import Derived.Shelf.Strconv.Itoa0
import Derived.Shelf.Slices.Turned
import Derived.Shelf.Bytes.SlSearch0
import Derived.Shelf.Bytes.SlEqualAll
import Derived.Shelf.Bytes.Small
import Derived.Outline
import Derived.Lib.EndianBits
import Derived.ShutString
import Derived.Lib.BytesEntry
import Derived.Lib.Bytealg
import Derived.Laws.Externs
import Derived.Lib.SmallJoins
import Derived.Deep.RegionHeld
import Derived.OpenShut
import Derived.ProofKit
import Derived.ChangeOld
import Derived.SizedLaws
import Derived.Test.YtchhdafgmifhdaaGreatWWords
namespace Go.Proofs.YtchhdafgmifhdaaGreat.Agg
end Go.Proofs.YtchhdafgmifhdaaGreat.Agg
namespace Go.Proofs.YtchhdafgmifhdaaGreat.AlcA
end Go.Proofs.YtchhdafgmifhdaaGreat.AlcA
namespace Go.Proofs.YtchhdafgmifhdaaGreat.AlcB
end Go.Proofs.YtchhdafgmifhdaaGreat.AlcB
namespace Go.Proofs.YtchhdafgmifhdaaGreat.AlcC
end Go.Proofs.YtchhdafgmifhdaaGreat.AlcC
namespace Go.Proofs.YtchhdafgmifhdaaGreat.AlcD
end Go.Proofs.YtchhdafgmifhdaaGreat.AlcD
namespace Go.Proofs.YtchhdafgmifhdaaGreat.AlcE
end Go.Proofs.YtchhdafgmifhdaaGreat.AlcE
namespace Go.Proofs.YtchhdafgmifhdaaGreat.AlcF
end Go.Proofs.YtchhdafgmifhdaaGreat.AlcF
namespace Go.Proofs.YtchhdafgmifhdaaGreat.AlcG
end Go.Proofs.YtchhdafgmifhdaaGreat.AlcG
namespace Go.Proofs.YtchhdafgmifhdaaGreat.AlcH
end Go.Proofs.YtchhdafgmifhdaaGreat.AlcH
namespace Go.Proofs.YtchhdafgmifhdaaGreat.B8
end Go.Proofs.YtchhdafgmifhdaaGreat.B8
namespace Go.Proofs.YtchhdafgmifhdaaGreat.BlkA
end Go.Proofs.YtchhdafgmifhdaaGreat.BlkA
namespace Go.Proofs.YtchhdafgmifhdaaGreat.BlkB
end Go.Proofs.YtchhdafgmifhdaaGreat.BlkB
namespace Go.Proofs.YtchhdafgmifhdaaGreat.BlkK
end Go.Proofs.YtchhdafgmifhdaaGreat.BlkK
namespace Go.Proofs.YtchhdafgmifhdaaGreat.BrdK
end Go.Proofs.YtchhdafgmifhdaaGreat.BrdK
namespace Go.Proofs.YtchhdafgmifhdaaGreat.CatL
end Go.Proofs.YtchhdafgmifhdaaGreat.CatL
namespace Go.Proofs.YtchhdafgmifhdaaGreat.ChkK
end Go.Proofs.YtchhdafgmifhdaaGreat.ChkK
namespace Go.Proofs.YtchhdafgmifhdaaGreat.CmpK
end Go.Proofs.YtchhdafgmifhdaaGreat.CmpK
namespace Go.Proofs.YtchhdafgmifhdaaGreat.CodA
end Go.Proofs.YtchhdafgmifhdaaGreat.CodA
namespace Go.Proofs.YtchhdafgmifhdaaGreat.CodB
end Go.Proofs.YtchhdafgmifhdaaGreat.CodB
namespace Go.Proofs.YtchhdafgmifhdaaGreat.CodC
end Go.Proofs.YtchhdafgmifhdaaGreat.CodC
namespace Go.Proofs.YtchhdafgmifhdaaGreat.CodL
end Go.Proofs.YtchhdafgmifhdaaGreat.CodL
namespace Go.Proofs.YtchhdafgmifhdaaGreat.CrcA
end Go.Proofs.YtchhdafgmifhdaaGreat.CrcA
namespace Go.Proofs.YtchhdafgmifhdaaGreat.CrcB
end Go.Proofs.YtchhdafgmifhdaaGreat.CrcB
namespace Go.Proofs.YtchhdafgmifhdaaGreat.CrcC
end Go.Proofs.YtchhdafgmifhdaaGreat.CrcC
namespace Go.Proofs.YtchhdafgmifhdaaGreat.CrcL
end Go.Proofs.YtchhdafgmifhdaaGreat.CrcL
namespace Go.Proofs.YtchhdafgmifhdaaGreat.DskA
end Go.Proofs.YtchhdafgmifhdaaGreat.DskA
namespace Go.Proofs.YtchhdafgmifhdaaGreat.DskB
end Go.Proofs.YtchhdafgmifhdaaGreat.DskB
namespace Go.Proofs.YtchhdafgmifhdaaGreat.DskC
end Go.Proofs.YtchhdafgmifhdaaGreat.DskC
namespace Go.Proofs.YtchhdafgmifhdaaGreat.DskK
end Go.Proofs.YtchhdafgmifhdaaGreat.DskK
namespace Go.Proofs.YtchhdafgmifhdaaGreat.ExtA
end Go.Proofs.YtchhdafgmifhdaaGreat.ExtA
namespace Go.Proofs.YtchhdafgmifhdaaGreat.ExtB
end Go.Proofs.YtchhdafgmifhdaaGreat.ExtB
namespace Go.Proofs.YtchhdafgmifhdaaGreat.ExtC
end Go.Proofs.YtchhdafgmifhdaaGreat.ExtC
namespace Go.Proofs.YtchhdafgmifhdaaGreat.ExtD
end Go.Proofs.YtchhdafgmifhdaaGreat.ExtD
namespace Go.Proofs.YtchhdafgmifhdaaGreat.ExtE
end Go.Proofs.YtchhdafgmifhdaaGreat.ExtE
namespace Go.Proofs.YtchhdafgmifhdaaGreat.ExtF
end Go.Proofs.YtchhdafgmifhdaaGreat.ExtF
namespace Go.Proofs.YtchhdafgmifhdaaGreat.ExtG
end Go.Proofs.YtchhdafgmifhdaaGreat.ExtG
namespace Go.Proofs.YtchhdafgmifhdaaGreat.ExtL
end Go.Proofs.YtchhdafgmifhdaaGreat.ExtL
namespace Go.Proofs.YtchhdafgmifhdaaGreat.FitK
end Go.Proofs.YtchhdafgmifhdaaGreat.FitK
namespace Go.Proofs.YtchhdafgmifhdaaGreat.FrmA
end Go.Proofs.YtchhdafgmifhdaaGreat.FrmA
namespace Go.Proofs.YtchhdafgmifhdaaGreat.FrmB
end Go.Proofs.YtchhdafgmifhdaaGreat.FrmB
namespace Go.Proofs.YtchhdafgmifhdaaGreat.KidK
end Go.Proofs.YtchhdafgmifhdaaGreat.KidK
namespace Go.Proofs.YtchhdafgmifhdaaGreat.KpA
end Go.Proofs.YtchhdafgmifhdaaGreat.KpA
namespace Go.Proofs.YtchhdafgmifhdaaGreat.KpB
end Go.Proofs.YtchhdafgmifhdaaGreat.KpB
namespace Go.Proofs.YtchhdafgmifhdaaGreat.LeaA
end Go.Proofs.YtchhdafgmifhdaaGreat.LeaA
namespace Go.Proofs.YtchhdafgmifhdaaGreat.LeaB
end Go.Proofs.YtchhdafgmifhdaaGreat.LeaB
namespace Go.Proofs.YtchhdafgmifhdaaGreat.LeaC
end Go.Proofs.YtchhdafgmifhdaaGreat.LeaC
namespace Go.Proofs.YtchhdafgmifhdaaGreat.LeaD
end Go.Proofs.YtchhdafgmifhdaaGreat.LeaD
namespace Go.Proofs.YtchhdafgmifhdaaGreat.LeaE
end Go.Proofs.YtchhdafgmifhdaaGreat.LeaE
namespace Go.Proofs.YtchhdafgmifhdaaGreat.LeaF
end Go.Proofs.YtchhdafgmifhdaaGreat.LeaF
namespace Go.Proofs.YtchhdafgmifhdaaGreat.LeaG
end Go.Proofs.YtchhdafgmifhdaaGreat.LeaG
namespace Go.Proofs.YtchhdafgmifhdaaGreat.LeaH
end Go.Proofs.YtchhdafgmifhdaaGreat.LeaH
namespace Go.Proofs.YtchhdafgmifhdaaGreat.LeaI
end Go.Proofs.YtchhdafgmifhdaaGreat.LeaI
namespace Go.Proofs.YtchhdafgmifhdaaGreat.LeaJ
end Go.Proofs.YtchhdafgmifhdaaGreat.LeaJ
namespace Go.Proofs.YtchhdafgmifhdaaGreat.LeaK
end Go.Proofs.YtchhdafgmifhdaaGreat.LeaK
namespace Go.Proofs.YtchhdafgmifhdaaGreat.LeaL
end Go.Proofs.YtchhdafgmifhdaaGreat.LeaL
namespace Go.Proofs.YtchhdafgmifhdaaGreat.LeaM
end Go.Proofs.YtchhdafgmifhdaaGreat.LeaM
namespace Go.Proofs.YtchhdafgmifhdaaGreat.LeaN
end Go.Proofs.YtchhdafgmifhdaaGreat.LeaN
namespace Go.Proofs.YtchhdafgmifhdaaGreat.LeaO
end Go.Proofs.YtchhdafgmifhdaaGreat.LeaO
namespace Go.Proofs.YtchhdafgmifhdaaGreat.LodK
end Go.Proofs.YtchhdafgmifhdaaGreat.LodK
namespace Go.Proofs.YtchhdafgmifhdaaGreat.MetK
end Go.Proofs.YtchhdafgmifhdaaGreat.MetK
namespace Go.Proofs.YtchhdafgmifhdaaGreat.OfA
end Go.Proofs.YtchhdafgmifhdaaGreat.OfA
namespace Go.Proofs.YtchhdafgmifhdaaGreat.PVerifyForms
end Go.Proofs.YtchhdafgmifhdaaGreat.PVerifyForms
namespace Go.Proofs.YtchhdafgmifhdaaGreat.PlcK
end Go.Proofs.YtchhdafgmifhdaaGreat.PlcK
namespace Go.Proofs.YtchhdafgmifhdaaGreat.PolK
end Go.Proofs.YtchhdafgmifhdaaGreat.PolK
namespace Go.Proofs.YtchhdafgmifhdaaGreat.PoolA
end Go.Proofs.YtchhdafgmifhdaaGreat.PoolA
namespace Go.Proofs.YtchhdafgmifhdaaGreat.PoolB
end Go.Proofs.YtchhdafgmifhdaaGreat.PoolB
namespace Go.Proofs.YtchhdafgmifhdaaGreat.PoolC
end Go.Proofs.YtchhdafgmifhdaaGreat.PoolC
namespace Go.Proofs.YtchhdafgmifhdaaGreat.PtrA
end Go.Proofs.YtchhdafgmifhdaaGreat.PtrA
namespace Go.Proofs.YtchhdafgmifhdaaGreat.PtrB
end Go.Proofs.YtchhdafgmifhdaaGreat.PtrB
namespace Go.Proofs.YtchhdafgmifhdaaGreat.PtrE
end Go.Proofs.YtchhdafgmifhdaaGreat.PtrE
namespace Go.Proofs.YtchhdafgmifhdaaGreat.PtrF
end Go.Proofs.YtchhdafgmifhdaaGreat.PtrF
namespace Go.Proofs.YtchhdafgmifhdaaGreat.PtrG
end Go.Proofs.YtchhdafgmifhdaaGreat.PtrG
namespace Go.Proofs.YtchhdafgmifhdaaGreat.PtrH
end Go.Proofs.YtchhdafgmifhdaaGreat.PtrH
namespace Go.Proofs.YtchhdafgmifhdaaGreat.PtrI
end Go.Proofs.YtchhdafgmifhdaaGreat.PtrI
namespace Go.Proofs.YtchhdafgmifhdaaGreat.PtrJ
end Go.Proofs.YtchhdafgmifhdaaGreat.PtrJ
namespace Go.Proofs.YtchhdafgmifhdaaGreat.PtrK
end Go.Proofs.YtchhdafgmifhdaaGreat.PtrK
namespace Go.Proofs.YtchhdafgmifhdaaGreat.RegK
end Go.Proofs.YtchhdafgmifhdaaGreat.RegK
namespace Go.Proofs.YtchhdafgmifhdaaGreat.RunK
end Go.Proofs.YtchhdafgmifhdaaGreat.RunK
namespace Go.Proofs.YtchhdafgmifhdaaGreat.ShaA
end Go.Proofs.YtchhdafgmifhdaaGreat.ShaA
namespace Go.Proofs.YtchhdafgmifhdaaGreat.ShaB
end Go.Proofs.YtchhdafgmifhdaaGreat.ShaB
namespace Go.Proofs.YtchhdafgmifhdaaGreat.ShaC
end Go.Proofs.YtchhdafgmifhdaaGreat.ShaC
namespace Go.Proofs.YtchhdafgmifhdaaGreat.ShaD
end Go.Proofs.YtchhdafgmifhdaaGreat.ShaD
namespace Go.Proofs.YtchhdafgmifhdaaGreat.ShaE
end Go.Proofs.YtchhdafgmifhdaaGreat.ShaE
namespace Go.Proofs.YtchhdafgmifhdaaGreat.ShaK
end Go.Proofs.YtchhdafgmifhdaaGreat.ShaK
namespace Go.Proofs.YtchhdafgmifhdaaGreat.SpnA
end Go.Proofs.YtchhdafgmifhdaaGreat.SpnA
namespace Go.Proofs.YtchhdafgmifhdaaGreat.StrL
end Go.Proofs.YtchhdafgmifhdaaGreat.StrL
namespace Go.Proofs.YtchhdafgmifhdaaGreat.TxtK
end Go.Proofs.YtchhdafgmifhdaaGreat.TxtK
namespace Go.Proofs.YtchhdafgmifhdaaGreat.WlkK
end Go.Proofs.YtchhdafgmifhdaaGreat.WlkK
namespace Go.Proofs.YtchhdafgmifhdaaGreatW.PrintLast
end Go.Proofs.YtchhdafgmifhdaaGreatW.PrintLast
namespace Go.Proofs.YtchhdafgmifhdaaGreatW.PrintMore
end Go.Proofs.YtchhdafgmifhdaaGreatW.PrintMore
namespace Go.Proofs.YtchhdafgmifhdaaGreatW.PrintWords
end Go.Proofs.YtchhdafgmifhdaaGreatW.PrintWords
namespace Go.Proofs.YtchhdafgmifhdaaGreatW.PrintWords.Kd
end Go.Proofs.YtchhdafgmifhdaaGreatW.PrintWords.Kd
-- PRINTED BY print.sh 35421559b90ae4d0a3588c463048766b98c2df88dd9212a6774a882060cdf62d: not written by this session
/-
  PRINTED WORDS, second file: A REGION THAT DRAWS ITS ORDER, WALKED BY HAND, where its last store writes what its own loads read ('x.f = append(x.f, f(i))'). Plain theorems; no macro, no elab. A claim may hold it (turn the namespace's name).
  A load may be taken first in every world that meets S; behind the operations of ds nothing is shown; sound because each of ds waits for what is taken (Region.lastB). The kernel checks it.
  By an AI agent of Go's test side, Mon Nov 16 2026. No person has read it.
-/
namespace Go.Proofs.YtchhdafgmifhdaaGreatW.PrintLast

section
variable {P : Program} {ops : Array Oper} {Q : Exit → Act → World → Prop} {md : Region.Mode} {S : World → Prop} {ds : List Nat}

end

section
variable {P : Program} {ops : Array Oper} {Q : Exit → Act → World → Prop} {md : Region.Mode} {S : World → Prop} {ds : List Nat}

end
end Go.Proofs.YtchhdafgmifhdaaGreatW.PrintLast
-- PRINTED BY print.sh 35421559b90ae4d0a3588c463048766b98c2df88dd9212a6774a882060cdf62d: not written by this session
namespace Go.Proofs.YtchhdafgmifhdaaGreatW.PrintLast
open Go.Proofs.YtchhdafgmifhdaaGreatW.PrintWords (Aside0)
section
variable {md : Region.Mode} {ops : Array Oper} {T : Bool × List (List Nat × List Nat)} {l l' li lj lk : Array Bool} {ds : List Nat} {i j k : Nat}
end
end Go.Proofs.YtchhdafgmifhdaaGreatW.PrintLast
-- PRINTED BY print.sh 35421559b90ae4d0a3588c463048766b98c2df88dd9212a6774a882060cdf62d: not written by this session
namespace Go.Proofs.YtchhdafgmifhdaaGreatW.PrintLast
section
variable {P : Program} {ops : Array Oper} {Q : Exit → Act → World → Prop} {md : Region.Mode} {S : World → Prop} {ds : List Nat} {T : Bool × List (List Nat × List Nat)}
end
end Go.Proofs.YtchhdafgmifhdaaGreatW.PrintLast
-- PRINTED BY print.sh 35421559b90ae4d0a3588c463048766b98c2df88dd9212a6774a882060cdf62d: not written by this session
namespace Go.Proofs.YtchhdafgmifhdaaGreatW.PrintWords
open Go.RowKit
namespace Kd
section
variable {α : Type} {d : Kd α} {e base g o n cap : Nat} {ok okp : Nat → Prop} {w W : World} {v : Value} {xs : List α}
end
section
variable {α : Type} {enc : α → Value} {h1 : ∀ x, (enc x).oneCell' = true} {e base g o n cap : Nat} {ok : Nat → Prop} {W : World} {xs : List α}
end
end Kd
end Go.Proofs.YtchhdafgmifhdaaGreatW.PrintWords
-- PRINTED BY print.sh 35421559b90ae4d0a3588c463048766b98c2df88dd9212a6774a882060cdf62d: not written by this session
/-! ### 40. Elements whose inner rows lie apart: what is stored into one says nothing of the others.
   S: as R, with an owner function f (block to element's index). H: as S with a hole: of element i its cells alone are told, its blocks are oki. -/
namespace Go.Proofs.YtchhdafgmifhdaaGreatW.PrintWords
open Go.RowKit
namespace Kd
section
variable {α β : Type} {d : Kd α} {d' : Kd β} {e e' : Nat} {w w1 W : World} {base b : Nat} {ok ok' okv oku : Nat → Prop} {u v : Value} {xs : List α} {ys : List β}
/-- A row whose elements lead to nothing: its blocks are its own one. -/
theorem R_tight (hE : d.E = []) (h : d.R e w base ok v xs) : d.R e w base (fun k => some k = v.ownBlock) v xs := by
  obtain ⟨h0, inner, ho, hr⟩ := h
  refine ⟨fun k hk => hk.symm, inner, ho, hr.imp_ (fun p c hp => d.M_mono (fun k hk => ?_) (d.M_bound hp))⟩
  obtain ⟨_, _, _, q, hq, _⟩ := hk
  rw [hE] at hq
  cases hq
end
section
variable {α β : Type} {d : Kd α} {d' : Kd β} {e e' g : Nat} {w w1 W : World} {base b : Nat} {ok ok' okv oku : Nat → Prop} {u v : Value} {xs : List α} {ys : List β}
end
section
variable {P : Program} {ops : Array Oper} {rest : List Oper} {o : Oper} {a : Act} {Q : Exit → Act → World → Prop} {Kc : Act → World → Prop} {α : Type}
end
section
variable {α β : Type} {d : Kd α} {e e' g n cap : Nat} {w w1 W : World} {base : Nat} {ok ok' oki okp : Nat → Prop} {u v : Value} {xs : List α} {i : Int} {c : List Value}
end
section
variable {P : Program} {ops : Array Oper} {rest : List Oper} {o : Oper} {a : Act} {Q : Exit → Act → World → Prop} {α : Type}
end
end Kd
end Go.Proofs.YtchhdafgmifhdaaGreatW.PrintWords
-- PRINTED BY print.sh 35421559b90ae4d0a3588c463048766b98c2df88dd9212a6774a882060cdf62d: not written by this session
namespace Go.Proofs.YtchhdafgmifhdaaGreatW.PrintWords
open Go.RowKit
namespace Kd
section
variable {α : Type} {n : Nat} {d : Kd α} {hs : 0 < d.sz} {w : World} {base : Nat} {ok : Nat → Prop} {xs : List α} {cs : List Value}
end
section
variable {α : Type} {n : Nat} {enc : α → Value} {h1 : ∀ x, (enc x).oneCell' = true} {hs : 0 < (scalar enc h1).sz} {w : World} {base : Nat} {ok : Nat → Prop} {xs : List α} {cs : List Value}
end
end Kd
end Go.Proofs.YtchhdafgmifhdaaGreatW.PrintWords
-- PRINTED BY print.sh 35421559b90ae4d0a3588c463048766b98c2df88dd9212a6774a882060cdf62d: not written by this session
namespace Go.Proofs.YtchhdafgmifhdaaGreatW.PrintWords
open Go.RowKit
section
variable {P : Program}
end
namespace Kd
section
variable {P : Program} {ops : Array Oper} {rest : List Oper} {o : Oper} {a : Act} {Q : Exit → Act → World → Prop} {Kc : Act → World → Prop} {α : Type}
end
section
variable {α : Type} {d : Kd α} {e : Nat} {w : World} {base : Nat} {ok : Nat → Prop} {v : Value} {xs : List α}
end
section
variable {P : Program} {ops : Array Oper} {rest : List Oper} {o : Oper} {a : Act} {Q : Exit → Act → World → Prop} {Kc : Act → World → Prop} {α : Type}
end
end Kd
end Go.Proofs.YtchhdafgmifhdaaGreatW.PrintWords
-- PRINTED BY print.sh 35421559b90ae4d0a3588c463048766b98c2df88dd9212a6774a882060cdf62d: not written by this session
namespace Go.Proofs.YtchhdafgmifhdaaGreatW.PrintWords
open Go.RowKit
namespace Kd
section
variable {α : Type} {d : Kd α} {e base g n c : Nat} {ok : Nat → Prop} {w w0 W : World} {A : Option Addr} {xs : List α}
end
end Kd
end Go.Proofs.YtchhdafgmifhdaaGreatW.PrintWords
-- PRINTED BY print.sh 35421559b90ae4d0a3588c463048766b98c2df88dd9212a6774a882060cdf62d: not written by this session
namespace Go.Proofs.YtchhdafgmifhdaaGreatW.PrintWords
open Go.RowKit
def Kept (w W : World) (S : Nat → Prop) : Prop := w.heap.size ≤ W.heap.size ∧ ∀ i, i < w.heap.size → ¬ S i → W.heap[i]? = w.heap[i]?
section
variable {w W W2 : World} {S S2 S' : Nat → Prop}
theorem Kept.refl (w : World) (S : Nat → Prop) : Kept w w S := ⟨Nat.le_refl _, fun _ _ _ => rfl⟩
theorem Kept.of_below (h : Below w.heap.size w W) (S : Nat → Prop) : Kept w W S := ⟨h.size, fun i hi _ => h.block i hi⟩
theorem Kept.mono (h : Kept w W S) (hs : ∀ k, S k → S' k) : Kept w W S' := ⟨h.1, fun i hi hn => h.2 i hi (fun hk => hn (hs i hk))⟩
theorem Kept.then_ (h : Kept w W S) (k : Kept W W2 S2) (hs : ∀ k, S2 k → S k ∨ w.heap.size ≤ k) : Kept w W2 S :=
  ⟨Nat.le_trans h.1 k.1, fun i hi hn => (k.2 i (Nat.lt_of_lt_of_le hi h.1) (fun h2 => (hs i h2).elim hn (fun h3 => by omega))).trans (h.2 i hi hn)⟩
theorem blk_kept {g : Nat} {o : Obj} (hb : W.heap[g]? = some o) (hk : Kept W W2 S) (hne : ¬ S g) : W2.heap[g]? = some o := (hk.2 g (blk_lt hb) hne).trans hb
theorem cell_kept {a : Addr} {v : Value} (hc : W.cell? a = some v) (hk : Kept W W2 S) (hne : ¬ S a.block) : W2.cell? a = some v := by
  have := hk.2 a.block (World.block_lt_of_cell? W a hc) hne
  simpa [World.cell?, this] using hc
end
namespace Kd
section
variable {α : Type} {d : Kd α} {e base n c : Nat} {ok oki S S2 : Nat → Prop} {w w0 W W1 W2 : World} {v : Value} {A : Option Addr} {xs : List α} {i : Int} {cs : List Value}
theorem R_kept (h : d.R e W base ok v xs) (hk : Kept W W2 S) (hne : ∀ k, ok k → ¬ S k) : d.R e W2 base ok v xs := R_step h (fun k ho hlt => hk.2 k hlt (hne k ho))
/-- A row told so before: it is so from a later world on too. -/
theorem C_kept_step (h : ∀ W', Kept w W' S → d.C W' A n xs) (hk : Kept w W S) : ∀ W', Kept W W' S → d.C W' A n xs := fun W' hk' => h W' (hk.then_ hk' (fun _ h2 => .inl h2))
/-- .. and at a call that writes less. -/
theorem C_kept_call (h : ∀ W', Kept w W' S → d.C W' A n xs) (hk : Kept w W S) (hs : ∀ k, S2 k → S k ∨ w.heap.size ≤ k) : ∀ W', Kept W W' S2 → d.C W' A n xs := fun W' hk' => h W' (hk.then_ hk' hs)
end
end Kd
end Go.Proofs.YtchhdafgmifhdaaGreatW.PrintWords
-- PRINTED BY print.sh 35421559b90ae4d0a3588c463048766b98c2df88dd9212a6774a882060cdf62d: not written by this session
namespace Go.Proofs.YtchhdafgmifhdaaGreatW.PrintWords
open Go.RowKit
namespace Foot
variable {P Q : World → Prop} {W W1 : World} {ok ok' : Nat → Prop}
end Foot
namespace Kd
section
variable {α β : Type} {d : Kd α} {e base n n' cc g N : Nat} {ok ok' okp S : Nat → Prop} {w w0 w1 W W1 : World} {A A' : Option Addr} {u v v1 : Value} {xs : List α} {xs' : List β} {d' : Kd β} {x : α} {c : List Value}
end
end Kd
end Go.Proofs.YtchhdafgmifhdaaGreatW.PrintWords
-- PRINTED BY print.sh 35421559b90ae4d0a3588c463048766b98c2df88dd9212a6774a882060cdf62d: not written by this session
namespace Go.Proofs.YtchhdafgmifhdaaGreatW.PrintWords
open Go.RowKit
namespace Kd
section
variable {α : Type} {d : Kd α} {e base n cc g : Nat} {ok ok' okp S : Nat → Prop} {w w1 W W1 : World} {A : Option Addr} {u v v1 : Value} {xs : List α} {x : α} {c : List Value}
end
end Kd
end Go.Proofs.YtchhdafgmifhdaaGreatW.PrintWords
-- PRINTED BY print.sh 35421559b90ae4d0a3588c463048766b98c2df88dd9212a6774a882060cdf62d: not written by this session
namespace Go.Proofs.YtchhdafgmifhdaaGreatW.PrintWords
open Go.RowKit
namespace Kd
section
variable {α : Type} {d : Kd α} {W : World} {g n : Nat} {S ok : Nat → Prop} {A : Option Addr} {ad : Addr} {xs : List α}
end
end Kd
end Go.Proofs.YtchhdafgmifhdaaGreatW.PrintWords
-- PRINTED BY print.sh 35421559b90ae4d0a3588c463048766b98c2df88dd9212a6774a882060cdf62d: not written by this session
namespace Go.Proofs.YtchhdafgmifhdaaGreatW.PrintWords
open Go.RowKit
section
variable {w w' u : World} {m B g : Nat} {o : Obj} {row : Option Nat} {S : Nat → Prop} {a : Addr} {v : Value}
end
namespace Kd
section
variable {α : Type} {d : Kd α} {e base n m : Nat} {ok : Nat → Prop} {w w' : World} {v : Value} {A : Option Addr} {xs : List α}
end
end Kd
end Go.Proofs.YtchhdafgmifhdaaGreatW.PrintWords
-- PRINTED BY print.sh 35421559b90ae4d0a3588c463048766b98c2df88dd9212a6774a882060cdf62d: not written by this session
namespace Go.Proofs.YtchhdafgmifhdaaGreatW.PrintWords
open Go.RowKit
section
variable {P : Program} {d : Nat} {xs ys : Array Value} {f : Field} {fs : List Field} {a b : Value} {r s : Bool} {w : World}
end
end Go.Proofs.YtchhdafgmifhdaaGreatW.PrintWords
-- PRINTED BY print.sh 35421559b90ae4d0a3588c463048766b98c2df88dd9212a6774a882060cdf62d: not written by this session
namespace Go.Proofs.YtchhdafgmifhdaaGreatW.PrintWords
end Go.Proofs.YtchhdafgmifhdaaGreatW.PrintWords
-- PRINTED BY print.sh 35421559b90ae4d0a3588c463048766b98c2df88dd9212a6774a882060cdf62d: not written by this session
namespace Go.Proofs.YtchhdafgmifhdaaGreatW.PrintLast
section
variable {P : Program} {ops : Array Oper} {Q : Exit → Act → World → Prop} {md : Region.Mode} {T : Bool × List (List Nat × List Nat)} {B : List Nat} {O : List Nat} {b : Nat → Bool} {i j n : Nat}
end
end Go.Proofs.YtchhdafgmifhdaaGreatW.PrintLast
-- PRINTED BY print.sh 35421559b90ae4d0a3588c463048766b98c2df88dd9212a6774a882060cdf62d: not written by this session
namespace Go.Proofs.YtchhdafgmifhdaaGreatW.PrintWords
open Go.RowKit
end Go.Proofs.YtchhdafgmifhdaaGreatW.PrintWords
namespace Go.Proofs.YtchhdafgmifhdaaGreatW.PrintLast
section
variable {ops : Array Oper} {a : Act} {o og : Oper} {g : Nat} {t : Tmp} {u : Bool}
end
end Go.Proofs.YtchhdafgmifhdaaGreatW.PrintLast
-- PRINTED BY print.sh 35421559b90ae4d0a3588c463048766b98c2df88dd9212a6774a882060cdf62d: not written by this session
namespace Go.Proofs.YtchhdafgmifhdaaGreatW.PrintWords
open Go.RowKit
section
variable {P : Program} {ops : Array Oper} {rest : List Oper} {o : Oper} {a : Act} {Q : Exit → Act → World → Prop} {W : World}
end
end Go.Proofs.YtchhdafgmifhdaaGreatW.PrintWords
-- PRINTED BY print.sh 35421559b90ae4d0a3588c463048766b98c2df88dd9212a6774a882060cdf62d: not written by this session
namespace Go.Proofs.YtchhdafgmifhdaaGreatW.PrintWords
open Go.RowKit
namespace Kd
section
variable {α : Type} {d : Kd α} {e base n cap g : Nat} {ok ok' okp : Nat → Prop} {w w1 W : World} {v v1 : Value} {xs ys : List α}
end
section
variable {P : Program} {ops : Array Oper} {rest : List Oper} {o : Oper} {a : Act} {Q : Exit → Act → World → Prop} {Kc : Act → World → Prop} {α : Type}
end
end Kd
end Go.Proofs.YtchhdafgmifhdaaGreatW.PrintWords
-- PRINTED BY print.sh 35421559b90ae4d0a3588c463048766b98c2df88dd9212a6774a882060cdf62d: not written by this session
-- PRINTED WORDS (module Derived/Print/More.lean): go-gate-2's additions: an AI agent of Go's test side, Tue Nov 17 2026; no person has read it. Lean checks it.
namespace Go.Proofs.YtchhdafgmifhdaaGreatW.PrintMore
open Go.RowKit Go.Proofs.YtchhdafgmifhdaaGreatW.PrintWords
namespace Kd
open Go.Proofs.YtchhdafgmifhdaaGreatW.PrintWords.Kd
end Kd

namespace Kd
open Go.Proofs.YtchhdafgmifhdaaGreatW.PrintWords.Kd
section
variable {α : Type} {d : Kd α} {e base g N : Nat} {ok : Nat → Prop} {W w1 : World} {u v : Value} {xs : List α}
end
end Kd
/-- 'max' and 'min' of two whole numbers. -/
theorem max2_int (k k' : IntKind) (x y : Int) : Builtin.max2 (.int k x) (.int k' y) = pure (.int k (if x < y then y else x)) := by simp only [Builtin.max2, gt_iff_lt]
theorem min2_int (k k' : IntKind) (x y : Int) : Builtin.min2 (.int k x) (.int k' y) = pure (.int k (if y < x then y else x)) := by simp only [Builtin.min2]
theorem max_two (ats : Array TypeId) (ty : TypeId) (a b : Value) : Builtin.max_ ats ty #[a, b] = (Builtin.max2 a b >>= fun s => pure s) := by simp only [Builtin.max_, List.foldlM_cons, List.foldlM_nil]
theorem min_two (ats : Array TypeId) (ty : TypeId) (a b : Value) : Builtin.min_ ats ty #[a, b] = (Builtin.min2 a b >>= fun s => pure s) := by simp only [Builtin.min_, List.foldlM_cons, List.foldlM_nil]
theorem max_three (ats : Array TypeId) (ty : TypeId) (a b c : Value) : Builtin.max_ ats ty #[a, b, c] = (Builtin.max2 a b >>= fun s => Builtin.max2 s c >>= fun s => pure s) := by simp only [Builtin.max_, List.foldlM_cons, List.foldlM_nil]
theorem min_three (ats : Array TypeId) (ty : TypeId) (a b c : Value) : Builtin.min_ ats ty #[a, b, c] = (Builtin.min2 a b >>= fun s => Builtin.min2 s c >>= fun s => pure s) := by simp only [Builtin.min_, List.foldlM_cons, List.foldlM_nil]
theorem max_four (ats : Array TypeId) (ty : TypeId) (a b c d : Value) : Builtin.max_ ats ty #[a, b, c, d] = (Builtin.max2 a b >>= fun s => Builtin.max2 s c >>= fun s => Builtin.max2 s d >>= fun s => pure s) := by simp only [Builtin.max_, List.foldlM_cons, List.foldlM_nil]
theorem min_four (ats : Array TypeId) (ty : TypeId) (a b c d : Value) : Builtin.min_ ats ty #[a, b, c, d] = (Builtin.min2 a b >>= fun s => Builtin.min2 s c >>= fun s => Builtin.min2 s d >>= fun s => pure s) := by simp only [Builtin.min_, List.foldlM_cons, List.foldlM_nil]
end Go.Proofs.YtchhdafgmifhdaaGreatW.PrintMore
namespace Go.Proofs.YtchhdafgmifhdaaGreatW.PrintWords
open Go.RowKit
section
variable {P : Program} {ops : Array Oper} {rest : List Oper} {o : Oper} {a : Act} {Q : Exit → Act → World → Prop} {W : World}
end
namespace Kd
section
variable {α : Type} {d : Kd α} {e base : Nat} {ok : Nat → Prop} {W w1 : World} {v : Value} {xs : List α}
end
section
variable {α : Type} {d : Kd α} {e base g n cap : Nat} {ok oki okp : Nat → Prop} {W : World} {xs : List α} {i : Int} {c : List Value}
end
section
variable {α : Type} {d : Kd α} {e base b b' g N : Nat} {ok ok1 : Nat → Prop} {W W2 w1 : World} {u v : Value} {xs ys : List α} {S : Nat → Prop}
end
end Kd
end Go.Proofs.YtchhdafgmifhdaaGreatW.PrintWords
namespace Go.Proofs.YtchhdafgmifhdaaGreatW.PrintWords
open Go.RowKit
namespace Kd
section
variable {α β : Type} {d : Kd α} {e base base' n m c g N' lo hi : Nat} {ok ok' S : Nat → Prop} {w W w1 : World} {A : Option Addr} {ad : Addr} {u v v1 : Value} {xs : List α}
end
end Kd
end Go.Proofs.YtchhdafgmifhdaaGreatW.PrintWords
-- PRINTED BY print.sh 35421559b90ae4d0a3588c463048766b98c2df88dd9212a6774a882060cdf62d: not written by this session
namespace Go.Proofs.YtchhdafgmifhdaaGreat.PVerifyForms
open Go.RowKit Go.Proofs.YtchhdafgmifhdaaGreatW.PrintWords Go.Proofs.YtchhdafgmifhdaaGreatW.PrintLast Go.Proofs.YtchhdafgmifhdaaGreatW.PrintMore
attribute [local go_sem] max2_int min2_int max_two min_two max_three min_three max_four min_four   -- for this text's walks alone
set_option linter.unusedVariables false
set_option linter.unusedSimpArgs false



theorem info5 : (Tryz.prog.info? 5).map (fun i => (i.zero, i.size, i.bytes)) = some (some (.int .u8 0), 1, 1) := by kernel_rfl
end Go.Proofs.YtchhdafgmifhdaaGreat.PVerifyForms
namespace Go.Proofs.YtchhdafgmifhdaaGreat.B8
open Go.RowKit Go.Proofs.YtchhdafgmifhdaaGreat.PVerifyForms Go.Proofs.YtchhdafgmifhdaaGreatW.PrintWords Go.Proofs.YtchhdafgmifhdaaGreatW.PrintLast Go.Proofs.YtchhdafgmifhdaaGreatW.PrintMore
set_option linter.unusedVariables false

theorem info5 : (Tryz.prog.info? 5).map (fun i => (i.zero, i.size, i.bytes)) = some (some (.int .u8 0), 1, 1) := by kernel_rfl
/-- A row of bytes that the call itself made. -/
abbrev R8 (w : World) (base : Nat) (v : Value) (xs : List Int) : Prop := Kd.R (Kd.int .u8) 5 w base (fun _ => True) v xs
/-- A row of bytes that is read. -/
abbrev C8 (w : World) (A : Option Addr) (n : Nat) (xs : List Int) : Prop := Kd.C (Kd.int .u8) w A n xs

section
variable {ops : Array Oper} {o : Oper} {rest : List Oper} {a : Act} {Q : Exit → Act → World → Prop}
/-- append(out, x) -/
theorem app1 {w0 W : World} (base : Nat) (hgd : o.guard = none) (s x : Operand)
    (ho : o.op = .call { callee := .builtin .append, args := #[s, x], argTypes := #[36, 36] })
    (v : Value) (xs : List Int) (p : Int) (hs : a.eval s = v) (hx : a.eval x = .slice (some ⟨W.heap.size, 0, none⟩) 1 1)
    (HO : R8 W base v xs) (HB : Below base w0 W) (hbase : base ≤ W.heap.size) (hl : xs.length < 140737488355328)
    (h : ∀ v1 w1, R8 w1 base v1 (xs ++ [p]) → Below base w0 w1 → wpList Tryz.prog ops Q rest (a.put o.dst v1) w1) :
    wpList Tryz.prog ops Q (o :: rest) a (W.alloc (.cells #[.int .u8 p] 5)) :=
  Kd.R_append (Kd.int .u8) (w0 := w0) base hgd s x 36 5 (.int .u8 0) 1 ho Tryz.underlying36 info5 rfl (by decide) (by omega) v xs p [.int .u8 p] (fun _ => True) (fun _ => False) hs hx rfl (fun _ hk => hk.elim) (fun _ _ => trivial) HO HB hbase (by omega)
    (fun v1 w1 h1 h2 _ _ => h v1 w1 h1 h2)
/-- append(out, ys...), the ys in no row of out's own -/
theorem appRow {w0 W : World} (base : Nat) (hgd : o.guard = none) (s x : Operand)
    (ho : o.op = .call { callee := .builtin .append, args := #[s, x], argTypes := #[36, 36] })
    (v : Value) (xs ys : List Int) (A : Option Addr) (m c : Nat) (hs : a.eval s = v) (hx : a.eval x = .slice A m c)
    (HO : R8 W base v xs) (HR : C8 W A m ys) (HB : Below base w0 W) (hbase : base ≤ W.heap.size) (hl : xs.length + m ≤ 140737488355328)
    (h : ∀ v1 w1, R8 w1 base v1 (xs ++ ys) → Below base w0 w1 → W.grownBy w1 v.ownBlock → wpList Tryz.prog ops Q rest (a.put o.dst v1) w1) :
    wpList Tryz.prog ops Q (o :: rest) a W :=
  Kd.R_append_rows (Kd.int .u8) (w0 := w0) base hgd s x 36 5 (.int .u8 0) 1 ho Tryz.underlying36 info5 rfl (by decide) (by omega) v xs ys A m c (fun _ => True) (fun _ => False) hs hx HO HR (fun _ _ h => h) (fun _ h => h.elim) (fun _ _ => trivial) HB hbase (by omega)
    (fun v1 w1 h1 h2 h3 _ => h v1 w1 h1 h2 h3)
end

/-- Where a row that is read lies. -/
theorem C_at {α : Type} {enc : α → Value} {h1 : ∀ x, (enc x).oneCell' = true} {w : World} {A : Option Addr} {n : Nat} {xs : List α} (d : α) (h : Kd.C (Kd.scalar enc h1) w A n xs) (h0 : 0 < n) :
    ∃ b off, A = some ⟨b, off, none⟩ ∧ b < w.heap.size ∧ ∀ i, i < n → w.cell? ⟨b, off + i, none⟩ = some (enc (xs.getD i d)) := by
  obtain ⟨ad, e, hx⟩ := h.2.2 h0
  have hl := h.1
  have each : ∀ i, i < n → w.cell? (ad.add i) = some (enc (xs.getD i d)) := by
    intro i hi
    obtain ⟨c, hc, hk, hj⟩ := hx i (xs.getD i d) (by simp [List.getD, hl, hi])
    have hk' : c = [enc (xs.getD i d)] := hk
    subst hk'
    have := hj 0 _ rfl
    simpa [show (Kd.scalar enc h1).sz = 1 from rfl] using this
  have g0 := each 0 h0
  rw [show ad.add 0 = ad from rfl] at g0
  have hs : ad.spot = none := World.cell?_spot g0
  obtain ⟨b, off, s⟩ := ad
  simp only at hs
  subst hs
  refine ⟨b, off, e, World.block_lt_of_cell? w _ g0, fun i hi => ?_⟩
  have := each i hi
  rwa [show (⟨b, off, none⟩ : Addr).add i = ⟨b, off + i, none⟩ from add_at b off i] at this

theorem C_take {α : Type} {d : Kd α} {w : World} {A : Option Addr} {n m : Nat} {xs : List α} (h : Kd.C d w A n xs) (hm : m ≤ n) : Kd.C d w A m (xs.take m) := by
  obtain ⟨h1, h2, h3⟩ := h
  refine ⟨by simp; omega, by omega, fun h0 => ?_⟩
  obtain ⟨ad, e, h4⟩ := h3 (by omega)
  refine ⟨ad, e, fun j p hj => h4 j p ?_⟩
  rw [List.getElem?_take] at hj
  split at hj
  · exact hj
  · cases hj

theorem C_drop {α : Type} {d : Kd α} {w : World} {A : Option Addr} {n j c : Nat} {xs : List α} (h : Kd.C d w A n xs) (hc : n ≤ c) (hj : j ≤ n) :
    Kd.C d w (if c = j then A else A.map (·.add (j * d.sz))) (n - j) (xs.drop j) := by
  obtain ⟨h1, h2, h3⟩ := h
  refine ⟨by simp; omega, by omega, fun h0 => ?_⟩
  obtain ⟨ad, rfl, h4⟩ := h3 (by omega)
  rw [if_neg (by omega)]
  refine ⟨_, rfl, fun i p hi => ?_⟩
  rw [List.getElem?_drop] at hi
  obtain ⟨cs, g1, g2, g3⟩ := h4 _ _ hi
  refine ⟨cs, g1, g2, fun k u hk => ?_⟩
  rw [Go.Deep.add_add, ← Nat.add_assoc, ← Nat.add_mul]
  exact g3 k u hk
/-- of bytes, as the walk's slice has it -/
theorem C8_drop {w : World} {A : Option Addr} {n j c : Nat} {xs : List Int} (h : C8 w A n xs) (hc : n ≤ c) (hj : j ≤ n) : C8 w (if c = j then A else A.map (·.add j)) (n - j) (xs.drop j) := by
  have := C_drop (d := Kd.int .u8) h hc hj
  rwa [show (Kd.int .u8).sz = 1 from rfl, Nat.mul_one] at this
/-- b[:j] of a row of bytes -/
theorem cut8_to (A : Option Addr) (n c j : Nat) (hm : j ≤ n) (hc : n ≤ c) (W : World) : (Instr.slice 36 (.slice A n c) none (some (.int .i64 (j : Int))) none).run Tryz.prog W = .ok (.slice A j c) W := by
  obtain ⟨i0, hi, _, _, _⟩ := info_parts info5
  have := cut_to (P := Tryz.prog) 36 5 .i64 Tryz.underlying36 hi A n c (j : Int) (by omega) (by omega) hc W
  simpa using this
/-- b[j:] of a row of bytes -/
theorem cut8_from (A : Option Addr) (n c j : Nat) (hm : j ≤ n) (W : World) : (Instr.slice 36 (.slice A n c) (some (.int .i64 (j : Int))) none none).run Tryz.prog W = .ok (.slice (if c = j then A else A.map (·.add j)) (n - j) (c - j)) W := by
  obtain ⟨i0, hi, _, hs, _⟩ := info_parts info5
  have := cut_from (P := Tryz.prog) 36 5 .i64 Tryz.underlying36 hi 1 hs A n c (j : Int) (by omega) (by omega) W
  simpa using this

/-- A new block of bytes, a row of the call's own. -/
theorem R8_new (w : World) (base : Nat) (hb : base ≤ w.heap.size) (c : List Int) (hc : c.length ≤ 9223372036854775807) : R8 (w.alloc (.cells (c.map (Value.int .u8)).toArray 5)) base (.slice (some ⟨w.heap.size, 0, none⟩) c.length c.length) c := by
  refine Kd.R_of_own ?_ (fun _ _ => trivial)
  have h2 := World.ownsRow_lit (base := base) (e := 5) (size := 1) w (c.map (Value.int .u8)).toArray c.length hb (by simpa [maxLen] using hc) (by simp)
  simpa [encs] using h2
end Go.Proofs.YtchhdafgmifhdaaGreat.B8
namespace Go.Proofs.YtchhdafgmifhdaaGreat.CodL

/-- All are bytes. -/
def Byt (l : List Int) : Prop := ∀ x ∈ l, 0 ≤ x ∧ x < 256
theorem Byt.take {l : List Int} (h : Byt l) (n : Nat) : Byt (l.take n) := fun x hx => h x (List.mem_of_mem_take hx)
theorem Byt.drop {l : List Int} (h : Byt l) (n : Nat) : Byt (l.drop n) := fun x hx => h x (List.mem_of_mem_drop hx)
theorem Byt.append {l r : List Int} (h : Byt l) (h2 : Byt r) : Byt (l ++ r) := fun x hx => (List.mem_append.1 hx).elim (h x) (h2 x)
theorem Byt.getD {l : List Int} (h : Byt l) (i : Nat) : 0 ≤ l.getD i 0 ∧ l.getD i 0 < 256 := by
  by_cases hi : i < l.length
  · have : l.getD i 0 = l[i] := by simp [hi]
    rw [this]
    exact h _ (List.getElem_mem hi)
  · have : l.getD i 0 = 0 := by simp [Nat.not_lt.1 hi]
    rw [this]
    omega

/-- So many bytes of a number, the lowest first. -/
def fixedL (size : Nat) (n : Int) : List Int := (List.range size).map fun i => n / 256 ^ i % 256
theorem fixedL_succ (k : Nat) (n : Int) : fixedL (k + 1) n = fixedL k n ++ [n / 256 ^ k % 256] := by simp [fixedL, List.range_succ]
theorem fixedL_len (k : Nat) (n : Int) : (fixedL k n).length = k := by simp [fixedL]
theorem fixedL_byt (k : Nat) (n : Int) : Byt (fixedL k n) := by
  intro x hx
  obtain ⟨i, _, rfl⟩ := List.mem_map.1 hx
  omega
theorem fixedL_cons (k : Nat) (n : Int) : fixedL (k + 1) n = n % 256 :: fixedL k (n / 256) := by
  induction k with
  | zero => simp [fixedL, List.range_succ]
  | succ k ih =>
    rw [fixedL_succ, ih, fixedL_succ]
    simp only [List.cons_append]
    congr 3
    rw [Int.pow_succ, Int.mul_comm, Int.ediv_ediv_of_nonneg (by decide)]

/-- What bytes tell, the lowest first. -/
def leL : List Int → Int
  | [] => 0
  | b :: r => b + 256 * leL r
theorem leL_snoc (l : List Int) (b : Int) : leL (l ++ [b]) = leL l + 256 ^ l.length * b := by
  induction l with
  | nil => simp [leL]
  | cons a l ih =>
    simp only [List.cons_append, leL, ih, List.length_cons, Int.pow_succ]
    rw [Int.mul_add, ← Int.add_assoc, Int.mul_comm (256 ^ l.length) 256, Int.mul_assoc]
theorem leL_bound {l : List Int} (h : Byt l) : 0 ≤ leL l ∧ leL l < 256 ^ l.length := by
  induction l with
  | nil => simp [leL]
  | cons a l ih =>
    have h1 := h a (by simp)
    have h2 := ih (fun x hx => h x (by simp [hx]))
    simp only [leL, List.length_cons, Int.pow_succ]
    omega
theorem leL_fixedL (k : Nat) (n : Int) : leL (fixedL k n) = n % 256 ^ k := by
  induction k generalizing n with
  | zero => simp [fixedL, leL, Int.emod_one]
  | succ k ih =>
    rw [fixedL_cons, leL, ih, Int.pow_succ, Int.mul_comm (256 ^ k) 256]
    have hq : (0 : Int) < 256 ^ k := Int.pow_pos (by decide)
    generalize (256 : Int) ^ k = q at *
    have h1 := Int.mul_ediv_add_emod (n / 256) q
    have h2 := Int.mul_ediv_add_emod n 256
    have h3 := Int.emod_nonneg (n / 256) (show q ≠ 0 by omega)
    have h4 := Int.emod_lt_of_pos (n / 256) hq
    have e : n = (n % 256 + 256 * (n / 256 % q)) + 256 * q * (n / 256 / q) := by
      rw [Int.mul_assoc]
      omega
    have h5 : 0 ≤ n % 256 + 256 * (n / 256 % q) := by omega
    have h6 : n % 256 + 256 * (n / 256 % q) < 256 * q := by omega
    generalize hr : n % 256 + 256 * (n / 256 % q) = r at *
    rw [e, Int.add_mul_emod_self_left, Int.emod_eq_of_lt h5 h6]
/-- A number in as few bytes as it needs. -/
def shortL (n : Nat) : List Int := if n < 128 then [(n : Int)] else ((n % 128 + 128 : Nat) : Int) :: shortL (n / 128)
termination_by n
theorem shortL_small {n : Nat} (h : n < 128) : shortL n = [(n : Int)] := by rw [shortL, if_pos h]
theorem shortL_more {n : Nat} (h : ¬ n < 128) : shortL n = ((n % 128 + 128 : Nat) : Int) :: shortL (n / 128) := by rw [shortL, if_neg h]
def glen (n : Nat) : Nat := (shortL n).length
theorem glen_small {n : Nat} (h : n < 128) : glen n = 1 := by rw [glen, shortL_small h]; rfl
theorem glen_more {n : Nat} (h : ¬ n < 128) : glen n = glen (n / 128) + 1 := by rw [glen, shortL_more h]; rfl
theorem glen_pos (n : Nat) : 0 < glen n := by
  by_cases h : n < 128
  · rw [glen_small h]; omega
  · rw [glen_more h]; omega
theorem shortL_byt (n : Nat) : Byt (shortL n) := by
  induction n using shortL.induct with
  | case1 n h => rw [shortL_small h]; intro x hx; simp at hx; omega
  | case2 n h ih =>
    rw [shortL_more h]
    intro x hx
    rcases List.mem_cons.1 hx with rfl | hx
    · omega
    · exact ih x hx
theorem glen_one {n : Nat} (h : glen n = 1) : n < 128 := by
  by_cases h1 : n < 128
  · exact h1
  · rw [glen_more h1] at h
    have := glen_pos (n / 128)
    omega
theorem glen_le {n : Nat} {k : Nat} (hk : 0 < k) (h : n < 128 ^ k) : glen n ≤ k := by
  induction k generalizing n with
  | zero => omega
  | succ k ih =>
    by_cases h1 : n < 128
    · rw [glen_small h1]; omega
    · rw [glen_more h1]
      have h2 : n / 128 < 128 ^ k := by
        rw [Nat.pow_succ] at h
        exact Nat.div_lt_of_lt_mul (by rw [Nat.mul_comm]; exact h)
      by_cases hk0 : k = 0
      · subst hk0
        simp at h2
        omega
      · have := ih (by omega) h2
        omega
theorem glen_ten {n : Nat} (h : n < 18446744073709551616) : glen n ≤ 10 := glen_le (by decide) (by omega)

/-- How many bits a number has. -/
def blen (n : Nat) : Nat := if n = 0 then 0 else Nat.log2 n + 1
theorem log2_128 {n : Nat} (h : ¬ n < 128) : Nat.log2 n = Nat.log2 (n / 128) + 7 := by
  have hn : n ≠ 0 := by omega
  have hm : n / 128 ≠ 0 := by omega
  have h1 : 2 ^ Nat.log2 (n / 128) ≤ n / 128 := (Nat.le_log2 hm).1 (Nat.le_refl _)
  have h2 : n / 128 < 2 ^ (Nat.log2 (n / 128) + 1) := (Nat.log2_lt hm).1 (Nat.lt_succ_self _)
  apply Nat.le_antisymm
  · have : n < 2 ^ (Nat.log2 (n / 128) + 7 + 1) := by
      rw [show Nat.log2 (n / 128) + 7 + 1 = (Nat.log2 (n / 128) + 1) + 7 by omega, Nat.pow_add]
      omega
    have := (Nat.log2_lt hn).2 this
    omega
  · refine (Nat.le_log2 hn).2 ?_
    rw [Nat.pow_add]
    omega
theorem log2_small {n : Nat} (h : n < 128) : Nat.log2 n ≤ 6 := by
  by_cases hn : n = 0
  · subst hn; decide
  · have := (Nat.log2_lt (k := 7) hn).2 (by omega)
    omega
theorem glen_blen (n : Nat) : glen n = max 1 ((blen n + 6) / 7) := by
  induction n using shortL.induct with
  | case1 n h =>
    rw [glen_small h]
    have := log2_small h
    unfold blen
    split <;> omega
  | case2 n h ih =>
    rw [glen_more h, ih]
    have := log2_128 h
    unfold blen
    rw [if_neg (by omega), if_neg (by omega)]
    omega

/-- How many bytes from the first on go on. -/
def lead : List Int → Nat
  | [] => 0
  | b :: r => if 128 ≤ b then lead r + 1 else 0
theorem lead_le (l : List Int) : lead l ≤ l.length := by
  induction l with
  | nil => simp [lead]
  | cons b r ih => simp only [lead, List.length_cons]; split <;> omega
theorem lead_lt {l : List Int} {i : Nat} (h : i < lead l) : 128 ≤ l.getD i 0 := by
  induction l generalizing i with
  | nil => simp [lead] at h
  | cons b r ih =>
    simp only [lead] at h
    split at h
    · cases i with
      | zero => simpa using ‹128 ≤ b›
      | succ i => simpa using ih (by omega)
    · omega
theorem lead_at {l : List Int} (h : lead l < l.length) : l.getD (lead l) 0 < 128 := by
  induction l with
  | nil => simp [lead] at h
  | cons b r ih =>
    simp only [lead, List.length_cons] at h ⊢
    split at h
    · rename_i hb
      rw [if_pos hb]
      simpa using ih (by omega)
    · rename_i hb
      rw [if_neg hb]
      simp
      omega
theorem lead_ge {l : List Int} {i : Nat} (hi : i ≤ l.length) (h : ∀ j, j < i → 128 ≤ l.getD j 0) : i ≤ lead l := by
  rcases Nat.lt_or_ge (lead l) i with h1 | h1
  · have h2 := lead_at (l := l) (by omega)
    have := h _ h1
    omega
  · exact h1
/-- What groups of seven bits tell, the lowest first. -/
def sevenL : List Int → Int
  | [] => 0
  | b :: r => b % 128 + 128 * sevenL r
theorem sevenL_snoc (l : List Int) (b : Int) : sevenL (l ++ [b]) = sevenL l + 128 ^ l.length * (b % 128) := by
  induction l with
  | nil => simp [sevenL]
  | cons a l ih =>
    simp only [List.cons_append, sevenL, ih, List.length_cons, Int.pow_succ]
    rw [Int.mul_add, ← Int.add_assoc, Int.mul_comm (128 ^ l.length) 128, Int.mul_assoc]
theorem sevenL_bound (l : List Int) : 0 ≤ sevenL l ∧ sevenL l < 128 ^ l.length := by
  induction l with
  | nil => simp [sevenL]
  | cons a l ih =>
    simp only [sevenL, List.length_cons, Int.pow_succ]
    omega

/-- Reading a short number: the number, how many bytes it has, and the error's number. -/
def readShort (b : List Int) : Int × Nat × Int :=
  if 10 ≤ lead b then (0, 0, 11)
  else if lead b = b.length then (0, 0, 10)
  else if (lead b = 9 ∧ 1 < b.getD 9 0) ∨ (0 < lead b ∧ b.getD (lead b) 0 = 0) then (0, 0, 11)
  else (sevenL (b.take (lead b + 1)), lead b + 1, 0)

theorem lead_shortL (n : Nat) (r : List Int) : lead (shortL n ++ r) = glen n - 1 := by
  induction n using shortL.induct with
  | case1 n h => rw [shortL_small h, glen_small h]; simp only [List.cons_append, lead]; rw [if_neg (by omega)]
  | case2 n h ih =>
    rw [shortL_more h, glen_more h]
    simp only [List.cons_append, lead]
    rw [if_pos (by omega), ih]
    have := glen_pos (n / 128)
    omega
theorem sevenL_shortL (n : Nat) : sevenL (shortL n) = n := by
  induction n using shortL.induct with
  | case1 n h => rw [shortL_small h]; simp only [sevenL]; omega
  | case2 n h ih =>
    rw [shortL_more h]
    simp only [sevenL, ih]
    omega
theorem shortL_last (n : Nat) : (0 < n → (shortL n).getD (glen n - 1) 0 ≠ 0) ∧ (glen n = 10 → n < 18446744073709551616 → (shortL n).getD 9 0 ≤ 1) := by
  have key : ∀ k n, glen n = k + 1 → (shortL n).getD k 0 = ((n / 128 ^ k : Nat) : Int) := by
    intro k
    induction k with
    | zero => intro n h; rw [shortL_small (glen_one h)]; simp
    | succ k ih =>
      intro n h
      have h1 : ¬ n < 128 := fun h1 => by rw [glen_small h1] at h; omega
      rw [glen_more h1] at h
      rw [shortL_more h1]
      have := ih (n / 128) (by omega)
      simp only [List.getD_cons_succ]
      rw [this, Nat.div_div_eq_div_mul, Nat.pow_succ, Nat.mul_comm]
  have low : ∀ k n, glen n = k + 1 → 0 < k → 128 ^ k ≤ n := by
    intro k
    induction k with
    | zero => intro n _ h; omega
    | succ k ih =>
      intro n h _
      have h1 : ¬ n < 128 := fun h1 => by rw [glen_small h1] at h; omega
      rw [glen_more h1] at h
      by_cases hk : k = 0
      · subst hk; simp; omega
      · have := ih (n / 128) (by omega) (by omega)
        rw [Nat.pow_succ]
        omega
  constructor
  · intro hn
    have hg := glen_pos n
    rw [key (glen n - 1) n (by omega)]
    by_cases h : glen n - 1 = 0
    · rw [h]; simp; omega
    · have h3 := low (glen n - 1) n (by omega) (by omega)
      have : 0 < n / 128 ^ (glen n - 1) := Nat.div_pos h3 (Nat.pos_of_ne_zero (by simp))
      omega
  · intro hg hn
    rw [key 9 n hg]
    have : n / 128 ^ 9 < 2 := by
      rw [Nat.div_lt_iff_lt_mul (by decide)]
      omega
    omega
theorem readShort_shortL (n : Nat) (hn : n < 18446744073709551616) (r : List Int) : readShort (shortL n ++ r) = ((n : Int), glen n, 0) := by
  have hg := glen_pos n
  have h10 := glen_ten hn
  have hl : (shortL n).length = glen n := rfl
  have hlast := shortL_last n
  have hd : ∀ i, i < glen n → (shortL n ++ r).getD i 0 = (shortL n).getD i 0 := by
    intro i hi
    simp [List.getElem?_append_left, hl, hi]
  unfold readShort
  rw [lead_shortL, if_neg (by omega), if_neg (by simp only [List.length_append, hl]; omega), if_neg ?_]
  · rw [show glen n - 1 + 1 = glen n by omega]
    rw [List.take_append_of_le_length (by omega), List.take_of_length_le (by omega), sevenL_shortL]
  · rintro (⟨h1, h2⟩ | ⟨h1, h2⟩)
    · rw [hd 9 (by omega)] at h2
      have := hlast.2 (by omega) hn
      omega
    · rw [hd _ (by omega)] at h2
      refine hlast.1 ?_ h2
      rcases Nat.eq_zero_or_pos n with rfl | h
      · rw [glen_small (by omega)] at h1; omega
      · exact h
theorem readShort_used (b : List Int) : (readShort b).2.1 ≤ b.length := by
  have := lead_le b
  unfold readShort
  split
  · simp
  split
  · simp
  split
  · simp
  · simp only
    omega
theorem readShort_bound {b : List Int} (hb : Byt b) : 0 ≤ (readShort b).1 ∧ (readShort b).1 < 18446744073709551616 := by
  unfold readShort
  split
  · simp
  split
  · simp
  split
  · simp
  · rename_i h1 h2 h3
    simp only
    have hle := lead_le b
    have hs := sevenL_bound (b.take (lead b + 1))
    have hl : (b.take (lead b + 1)).length = lead b + 1 := by rw [List.length_take]; omega
    rw [hl] at hs
    refine ⟨hs.1, ?_⟩
    by_cases h9 : lead b = 9
    · have e : b.take (9 + 1) = b.take 9 ++ [b.getD 9 0] := by
        rw [List.take_add_one]
        simp [show 9 < b.length by omega]
      have h4 := sevenL_bound (b.take 9)
      have hl9 : (b.take 9).length = 9 := by rw [List.length_take]; omega
      rw [hl9] at h4
      rw [h9, e, sevenL_snoc, hl9]
      have h5 : ¬ (1 < b.getD 9 0) := fun h => h3 (.inl ⟨h9, h⟩)
      have h6 := hb.getD 9
      rw [Int.emod_eq_of_lt h6.1 (by omega)]
      have : (128 : Int) ^ 9 * b.getD 9 0 ≤ 128 ^ 9 := by
        have : b.getD 9 0 = 0 ∨ b.getD 9 0 = 1 := by omega
        rcases this with h | h <;> rw [h] <;> decide
      have : (128 : Int) ^ 9 = 9223372036854775808 := by decide
      omega
    · have : (128 : Int) ^ (lead b + 1) ≤ 128 ^ 9 := by
        have h8 : lead b + 1 ≤ 9 := by omega
        exact_mod_cast Nat.pow_le_pow_right (n := 128) (by decide) h8
      have : (128 : Int) ^ 9 = 9223372036854775808 := by decide
      omega
end Go.Proofs.YtchhdafgmifhdaaGreat.CodL
namespace Go.Proofs.YtchhdafgmifhdaaGreat.CatL
open Go.Proofs.YtchhdafgmifhdaaGreat.CodL

/-- A pointer. -/
structure Ptr where
  at_ : Int
  birth : Int
  len : Int
  crc : Int
  sha : List Int
deriving DecidableEq
def zeroP : Ptr := ⟨0, 0, 0, 0, List.replicate 32 0⟩
def sect (n : Int) : Int := if n < 1 ∨ 65536 < n then 0 else (n + 511) / 512
theorem sect_bound (n : Int) : 0 ≤ sect n ∧ sect n ≤ 128 := by unfold sect; split <;> omega
/-- It is one. -/
def Right (p : Ptr) : Prop := 1 ≤ p.birth ∧ p.birth ≤ 1152921504606846976 ∧ 0 < sect p.len ∧ 2 ≤ p.at_ ∧ p.at_ ≤ 8192 - sect p.len
instance (p : Ptr) : Decidable (Right p) := by unfold Right; exact inferInstance
theorem Right.bounds {p : Ptr} (h : Right p) : 0 ≤ p.at_ ∧ p.at_ < 8192 ∧ 0 ≤ p.birth ∧ p.birth ≤ 1152921504606846976 ∧ 1 ≤ p.len ∧ p.len ≤ 65536 := by
  obtain ⟨h1, h2, h3, h4, h5⟩ := h
  have := sect_bound p.len
  refine ⟨by omega, by omega, by omega, h2, ?_, ?_⟩ <;> (unfold sect at h3; split at h3 <;> omega)
/-- Its parts are of their kinds. -/
structure Ok (p : Ptr) : Prop where
  crc0 : 0 ≤ p.crc
  crc1 : p.crc < 4294967296
  len : p.sha.length = 32
  sha : Byt p.sha
/-- One that may be laid. -/
def Lays (p : Ptr) : Prop := Ok p ∧ (Right p ∨ p = zeroP)
theorem Lays.bounds {p : Ptr} (h : Lays p) : 0 ≤ p.at_ ∧ p.at_ < 8192 ∧ 0 ≤ p.birth ∧ p.birth ≤ 1152921504606846976 ∧ 0 ≤ p.len ∧ p.len ≤ 65536 := by
  rcases h.2 with h | rfl
  · have := h.bounds
    omega
  · decide

def ptrL (p : Ptr) : List Int := fixedL 4 p.at_ ++ fixedL 4 p.len ++ fixedL 8 p.birth ++ fixedL 4 p.crc ++ p.sha
theorem ptrL_len {p : Ptr} (h : Ok p) : (ptrL p).length = 52 := by simp [ptrL, fixedL_len, h.len]
theorem ptrL_byt {p : Ptr} (h : Ok p) : Byt (ptrL p) := ((((fixedL_byt _ _).append (fixedL_byt _ _)).append (fixedL_byt _ _)).append (fixedL_byt _ _)).append h.sha

/-- As a machine's number. -/
def s64 (n : Int) : Int := if n < 9223372036854775808 then n else n - 18446744073709551616
/-- What 52 bytes tell, right or not. -/
def rawP (b : List Int) : Ptr := ⟨leL (b.take 4), s64 (leL ((b.drop 8).take 8)), leL ((b.drop 4).take 4), leL ((b.drop 16).take 4), (b.drop 20).take 32⟩
def readP (b : List Int) : Ptr × Int :=
  if b.length < 52 then (zeroP, 10) else if rawP b ≠ zeroP ∧ ¬ Right (rawP b) then (zeroP, 11) else (rawP b, 0)
theorem rawP_ptrL {p : Ptr} (h : Lays p) (r : List Int) : rawP (ptrL p ++ r) = p := by
  have hb := h.bounds
  obtain ⟨hk, _⟩ := h
  have f4 : ∀ n, (fixedL 4 n).length = 4 := fun n => fixedL_len 4 n
  have f8 : ∀ n, (fixedL 8 n).length = 8 := fun n => fixedL_len 8 n
  have e0 : ptrL p ++ r = fixedL 4 p.at_ ++ (fixedL 4 p.len ++ (fixedL 8 p.birth ++ (fixedL 4 p.crc ++ (p.sha ++ r)))) := by simp [ptrL]
  have d4 : (ptrL p ++ r).drop 4 = fixedL 4 p.len ++ (fixedL 8 p.birth ++ (fixedL 4 p.crc ++ (p.sha ++ r))) := by rw [e0]; exact List.drop_left' (f4 _)
  have d8 : (ptrL p ++ r).drop 8 = fixedL 8 p.birth ++ (fixedL 4 p.crc ++ (p.sha ++ r)) := by
    rw [show 8 = 4 + 4 from rfl, ← List.drop_drop, d4]; exact List.drop_left' (f4 _)
  have d16 : (ptrL p ++ r).drop 16 = fixedL 4 p.crc ++ (p.sha ++ r) := by
    rw [show 16 = 8 + 8 from rfl, ← List.drop_drop, d8]; exact List.drop_left' (f8 _)
  have d20 : (ptrL p ++ r).drop 20 = p.sha ++ r := by
    rw [show 20 = 16 + 4 from rfl, ← List.drop_drop, d16]; exact List.drop_left' (f4 _)
  have t0 : (ptrL p ++ r).take 4 = fixedL 4 p.at_ := by rw [e0]; exact List.take_left' (f4 _)
  have t4 : ((ptrL p ++ r).drop 4).take 4 = fixedL 4 p.len := by rw [d4]; exact List.take_left' (f4 _)
  have t8 : ((ptrL p ++ r).drop 8).take 8 = fixedL 8 p.birth := by rw [d8]; exact List.take_left' (f8 _)
  have t16 : ((ptrL p ++ r).drop 16).take 4 = fixedL 4 p.crc := by rw [d16]; exact List.take_left' (f4 _)
  have t20 : ((ptrL p ++ r).drop 20).take 32 = p.sha := by rw [d20]; exact List.take_left' hk.len
  obtain ⟨a, bi, l, c, s⟩ := p
  unfold rawP
  rw [t0, t4, t8, t16, t20, leL_fixedL, leL_fixedL, leL_fixedL, leL_fixedL]
  have k1 := hk.crc0
  have k2 := hk.crc1
  simp only at hb k1 k2 ⊢
  rw [Int.emod_eq_of_lt (by omega) (by simp; omega), Int.emod_eq_of_lt (by omega) (by simp; omega), Int.emod_eq_of_lt (by omega) (by simp; omega), Int.emod_eq_of_lt (by omega) (by simp; omega)]
  unfold s64
  rw [if_pos (by omega)]
theorem readP_ptrL {p : Ptr} (h : Lays p) (r : List Int) : readP (ptrL p ++ r) = (p, 0) := by
  unfold readP
  rw [rawP_ptrL h, if_neg (by rw [List.length_append, ptrL_len h.1]; omega), if_neg]
  rintro ⟨h1, h2⟩
  rcases h.2 with h3 | h3
  · exact h2 h3
  · exact h1 h3

end Go.Proofs.YtchhdafgmifhdaaGreat.CatL
namespace Go.Proofs.YtchhdafgmifhdaaGreat.Agg
open Go.RowKit
set_option linter.unusedVariables false
variable {P : Program}

theorem setRow_same (w : World) (g : Nat) (cs : Array Value) (t : TypeId) (fr : Nat × Nat) (hg : w.heap[g]? = some (.cells cs t fr)) : w.setRow g cs = w := by
  unfold World.setRow
  refine Eq.trans (b := ({ w with heap := w.heap } : World)) ?_ rfl
  congr 1
  apply Array.ext_getElem?
  intro i
  rw [Array.getElem?_modify]
  by_cases h : g = i
  · subst h
    rw [if_pos rfl, hg]
    rfl
  · rw [if_neg h]

theorem heap_new (w : World) (o : Obj) : (w.alloc o).heap[w.heap.size]? = some o := heap_alloc_last w o

theorem wpList_store_same {ops : Array Oper} {rest : List Oper} {o : Oper} {a : Act} {w : World} {Q : Exit → Act → World → Prop} (hgd : o.guard = none) (ty : TypeId) (x y : Operand) (ho : o.op = .store ty x y)
    (g : Nat) (cs : Array Value) (hx : a.eval x = .pointer (some ⟨g, 0, none⟩)) (hy : a.eval y = .agg cs) (t : TypeId) (hg : w.heap[g]? = some (.cells cs t (0, 0)))
    (hi : (P.info? ty).map (·.size) = some cs.size) (h1 : cs.all (·.oneCell') = true) (h : wpList P ops Q rest (a.put o.dst undef) w) : wpList P ops Q (o :: rest) a w := by
  refine wpList_plain hgd fun K hK => ?_
  have hs := setRow_same w g cs t (0, 0) hg
  refine wp_store_row ty x y ho g cs hx hy t cs hg hi rfl h1 ?_
  rw [hs]
  exact hK _ _ h

theorem gate_on {ops : Array Oper} {rest : List Oper} {o : Oper} {a : Act} {w : World} {Q : Exit → Act → World → Prop} (hw : Region.wanted o (yielded ops a.tmps) = true) (h : wpList P ops Q ({ o with guard := none } :: rest) a w) : wpList P ops Q (o :: rest) a w := by
  have h1 : Region.wanted { o with guard := none } (yielded ops a.tmps) = true := rfl
  unfold wpList at h ⊢
  rw [if_pos h1] at h
  rw [if_pos hw]
  exact h

section
variable {fn : Func} {w : World} {g : Nat} {t ty p q : Nat} {cs : Array Value} {fr : Nat × Nat} {d : TypeDesc} (tmps : Array Value)
theorem res_ct (h : fn.results = #[.cell p ty, .tmp q]) (hp : tmps.getD p undef = .pointer (some ⟨g, 0, none⟩)) (hg : w.heap[g]? = some (.cells cs t fr))
    (hu : P.underlying ty = some d) (hd : (match d with | .struct _ | .array _ _ => true | _ => false) = true) (hi : (P.info? ty).map (·.size) = some cs.size) :
    (results fn tmps).run P w = .ok (.tuple #[.agg cs, tmps.getD q undef]) w := by
  have hp' : tmps[p]?.getD undef = .pointer (some ⟨g, 0, none⟩) := by simpa using hp
  simp [results, h, hp', asAddr, run_loadVar_row w g t ty cs fr d hg hu hd hi]
end
end Go.Proofs.YtchhdafgmifhdaaGreat.Agg
namespace Go.Proofs.YtchhdafgmifhdaaGreat.CodA
theorem ret_int {k : IntKind} {a b : Int} (h : a = b) : Ending.returned (.int k a) = .returned (.int k b) := by rw [h]
end Go.Proofs.YtchhdafgmifhdaaGreat.CodA
namespace Go.Proofs.YtchhdafgmifhdaaGreat.CodB
end Go.Proofs.YtchhdafgmifhdaaGreat.CodB
namespace Go.Proofs.YtchhdafgmifhdaaGreat.CodC
end Go.Proofs.YtchhdafgmifhdaaGreat.CodC
namespace Go.Proofs.YtchhdafgmifhdaaGreat.CatT
end Go.Proofs.YtchhdafgmifhdaaGreat.CatT
namespace Go.Proofs.YtchhdafgmifhdaaGreat.StmA
end Go.Proofs.YtchhdafgmifhdaaGreat.StmA
namespace Go.Proofs.YtchhdafgmifhdaaGreat.ExtL
set_option linter.unusedVariables false
set_option linter.unusedSimpArgs false

/-- From one on, up to another one, without that. -/
abbrev Sp := Int × Int
/-- It is one. -/
def okS (s : Sp) : Prop := 0 ≤ s.1 ∧ s.1 < s.2 ∧ s.2 ≤ 1099511627776
instance (s : Sp) : Decidable (okS s) := by unfold okS; exact inferInstance
/-- Rising behind a number, apart and not empty. -/
def VS : Int → List Sp → Prop
  | _, [] => True
  | last, s :: l => last < s.1 ∧ s.1 < s.2 ∧ s.2 ≤ 1099511627776 ∧ VS s.2 l
instance decVS : (last : Int) → (l : List Sp) → Decidable (VS last l)
  | _, [] => .isTrue trivial
  | last, s :: l => by
    unfold VS
    have := decVS s.2 l
    exact inferInstance
def total (l : List Sp) : Int := (l.map fun s => s.2 - s.1).sum
/-- How many are wholly ahead of a number. -/
def first (l : List Sp) (n : Int) : Nat := (l.takeWhile fun s => decide (s.2 < n)).length
def addS : List Sp → Sp → List Sp
  | [], s => [s]
  | x :: r, s => if x.2 < s.1 then x :: addS r s else if s.2 < x.1 then s :: x :: r else addS r (min s.1 x.1, max s.2 x.2)
def piecesS (x s : Sp) : List Sp := (if x.1 < s.1 then [(x.1, s.1)] else []) ++ (if s.2 < x.2 then [(s.2, x.2)] else [])
def remS : List Sp → Sp → List Sp
  | [], _ => []
  | x :: r, s => if x.2 ≤ s.1 then x :: remS r s else if s.2 ≤ x.1 then x :: r else piecesS x s ++ remS r s
theorem VS.mem {last : Int} {l : List Sp} (h : VS last l) {s : Sp} (hs : s ∈ l) : last < s.1 ∧ s.1 < s.2 ∧ s.2 ≤ 1099511627776 := by
  induction l generalizing last with
  | nil => simp at hs
  | cons a l ih =>
    obtain ⟨h1, h2, h3, h4⟩ := h
    rcases List.mem_cons.1 hs with rfl | hs
    · exact ⟨h1, h2, h3⟩
    · have := ih h4 hs; omega
theorem total_nil : total [] = 0 := rfl
theorem total_cons (s : Sp) (l : List Sp) : total (s :: l) = (s.2 - s.1) + total l := by simp [total]
theorem total_nonneg {last : Int} {l : List Sp} (h : VS last l) : 0 ≤ total l := by
  induction l generalizing last with
  | nil => exact Int.le_refl _
  | cons s l ih => obtain ⟨h1, h2, h3, h4⟩ := h; rw [total_cons]; have := ih h4; omega
theorem total_le {last : Int} {l : List Sp} (h : VS last l) {m : Int} (hm : ∀ s ∈ l, s.2 ≤ m) (hlm : last ≤ m) : total l ≤ m - last := by
  induction l generalizing last with
  | nil => rw [total_nil]; omega
  | cons s l ih =>
    obtain ⟨h1, h2, h3, h4⟩ := h
    rw [total_cons]
    have := ih h4 (fun a ha => hm a (List.mem_cons_of_mem _ ha)) (hm s (List.mem_cons_self ..))
    omega
/-- The first one that is long enough. -/
def findS : List Sp → Int → Option Int
  | [], _ => none
  | x :: r, n => if n ≤ x.2 - x.1 then some x.1 else findS r n
end Go.Proofs.YtchhdafgmifhdaaGreat.ExtL
namespace Go.Proofs.YtchhdafgmifhdaaGreat.CrcL
open Go.Proofs.YtchhdafgmifhdaaGreat.CodL
set_option linter.unusedVariables false

def tab : List Nat := [0x00000000, 0x105ec76f, 0x20bd8ede, 0x30e349b1, 0x417b1dbc, 0x5125dad3, 0x61c69362, 0x7198540d,
  0x82f63b78, 0x92a8fc17, 0xa24bb5a6, 0xb21572c9, 0xc38d26c4, 0xd3d3e1ab, 0xe330a81a, 0xf36e6f75]
theorem tab_lt (r : Nat) : tab.getD r 0 < 4294967296 := by
  by_cases h : r < 16
  · have : ∀ r, r < 16 → tab.getD r 0 < 4294967296 := by decide +kernel
    exact this r h
  · rw [List.getD_eq_getElem?_getD, List.getElem?_eq_none (by rw [show tab.length = 16 from rfl]; omega)]; decide
/-- Four bits on, by the table. -/
def halfN (s : Nat) : Nat := s / 16 ^^^ tab.getD (s % 16) 0
theorem halfN_lt {s : Nat} (h : s < 4294967296) : halfN s < 4294967296 := Nat.xor_lt_two_pow (n := 32) (by omega) (tab_lt _)
def eightN (s : Nat) : Nat := halfN (halfN s)
/-- One byte on. -/
def stepN (s : Nat) (c : Int) : Nat := eightN (s ^^^ c.toNat)
def crcN (s : Nat) (l : List Int) : Nat := l.foldl stepN s
theorem crcN_snoc (s : Nat) (l : List Int) (c : Int) : crcN s (l ++ [c]) = stepN (crcN s l) c := by unfold crcN; simp
/-- The sum. -/
def sumN (l : List Int) : Nat := 4294967295 - crcN 4294967295 l
theorem sumN_lt (l : List Int) : sumN l < 4294967296 := by unfold sumN; omega
end Go.Proofs.YtchhdafgmifhdaaGreat.CrcL
namespace Go.Proofs.YtchhdafgmifhdaaGreat.CrcA
open Go.RowKit Go.Proofs.YtchhdafgmifhdaaGreat.B8 Go.Proofs.YtchhdafgmifhdaaGreat.CodL Go.Proofs.YtchhdafgmifhdaaGreat.CodA Go.Proofs.YtchhdafgmifhdaaGreat.CrcL Go.Proofs.YtchhdafgmifhdaaGreat.PVerifyForms Go.Proofs.YtchhdafgmifhdaaGreatW.PrintWords Go.Proofs.YtchhdafgmifhdaaGreatW.PrintLast Go.Proofs.YtchhdafgmifhdaaGreatW.PrintMore
set_option linter.unusedVariables false
set_option linter.unusedSimpArgs false

end Go.Proofs.YtchhdafgmifhdaaGreat.CrcA
namespace Go.Proofs.YtchhdafgmifhdaaGreat.CrcB
open Go.RowKit Go.Proofs.YtchhdafgmifhdaaGreat.B8 Go.Proofs.YtchhdafgmifhdaaGreat.CodL Go.Proofs.YtchhdafgmifhdaaGreat.CodA Go.Proofs.YtchhdafgmifhdaaGreat.CodB Go.Proofs.YtchhdafgmifhdaaGreat.CrcL Go.Proofs.YtchhdafgmifhdaaGreat.CrcA Go.Proofs.YtchhdafgmifhdaaGreat.PVerifyForms Go.Proofs.YtchhdafgmifhdaaGreatW.PrintWords Go.Proofs.YtchhdafgmifhdaaGreatW.PrintLast Go.Proofs.YtchhdafgmifhdaaGreatW.PrintMore
set_option linter.unusedVariables false
set_option linter.unusedSimpArgs false

/-- A byte of a list. -/
theorem byte_at {l : List Int} (hb : Byt l) {j : Nat} (hj : j < l.length) : ∃ q : Nat, q < 256 ∧ l.getD j 0 = (q : Int) ∧ l.take (j + 1) = l.take j ++ [(q : Int)] := by
  have h := hb l[j] (List.getElem_mem hj)
  obtain ⟨q, hq⟩ := Int.eq_ofNat_of_zero_le h.1
  refine ⟨q, by omega, ?_, ?_⟩
  · rw [List.getD_eq_getElem?_getD, List.getElem?_eq_getElem hj]; exact hq
  · rw [List.take_add_one, List.getElem?_eq_getElem hj, hq]; rfl

end Go.Proofs.YtchhdafgmifhdaaGreat.CrcB
namespace Go.Proofs.YtchhdafgmifhdaaGreat.CrcC
open Go.RowKit Go.Proofs.YtchhdafgmifhdaaGreat.B8 Go.Proofs.YtchhdafgmifhdaaGreat.Agg Go.Proofs.YtchhdafgmifhdaaGreat.CodL Go.Proofs.YtchhdafgmifhdaaGreat.CodA Go.Proofs.YtchhdafgmifhdaaGreat.CodB Go.Proofs.YtchhdafgmifhdaaGreat.CrcL Go.Proofs.YtchhdafgmifhdaaGreat.CrcA Go.Proofs.YtchhdafgmifhdaaGreat.CrcB Go.Proofs.YtchhdafgmifhdaaGreat.PVerifyForms Go.Proofs.YtchhdafgmifhdaaGreatW.PrintWords Go.Proofs.YtchhdafgmifhdaaGreatW.PrintLast Go.Proofs.YtchhdafgmifhdaaGreatW.PrintMore
set_option linter.unusedVariables false
set_option linter.unusedSimpArgs false

theorem res_c {P : Program} {fn : Func} {w : World} {g : Nat} {t ty p : Nat} {cs : Array Value} {fr : Nat × Nat} {d : TypeDesc} (tmps : Array Value) (h : fn.results = #[.cell p ty]) (hp : tmps.getD p undef = .pointer (some ⟨g, 0, none⟩)) (hg : w.heap[g]? = some (.cells cs t fr))
    (hu : P.underlying ty = some d) (hd : (match d with | .struct _ | .array _ _ => true | _ => false) = true) (hi : (P.info? ty).map (·.size) = some cs.size) :
    (results fn tmps).run P w = .ok (.agg cs) w := by
  have hp' : tmps[p]?.getD undef = .pointer (some ⟨g, 0, none⟩) := by simpa using hp
  simp [results, h, hp', asAddr, run_loadVar_row w g t ty cs fr d hg hu hd hi]
theorem u187 : Tryz.prog.underlying 246 = some (.array 16 29) := by kernel_rfl
theorem i187 : (Tryz.prog.info? 246).map (·.size) = some 16 := by kernel_rfl
abbrev T187 : Array Value := #[.int .u32 0, .int .u32 0x105ec76f, .int .u32 0x20bd8ede, .int .u32 0x30e349b1, .int .u32 0x417b1dbc, .int .u32 0x5125dad3, .int .u32 0x61c69362, .int .u32 0x7198540d, .int .u32 0x82f63b78, .int .u32 0x92a8fc17, .int .u32 0xa24bb5a6, .int .u32 0xb21572c9, .int .u32 0xc38d26c4, .int .u32 0xd3d3e1ab, .int .u32 0xe330a81a, .int .u32 0xf36e6f75]
theorem T_at (r : Nat) (h : r < 16) : T187[r]? = some (.int .u32 (tab.getD r 0 : Int)) := by
  have : ∀ r, r < 16 → T187[r]? = some (.int .u32 (tab.getD r 0 : Int)) := by
    intro r h
    match r, h with
    | 0, _ | 1, _ | 2, _ | 3, _ | 4, _ | 5, _ | 6, _ | 7, _ | 8, _ | 9, _ | 10, _ | 11, _ | 12, _ | 13, _ | 14, _ | 15, _ => rfl
    | n + 16, h => omega
  exact this r h
set_option maxRecDepth 100000 in
theorem halves_calls (w : World) : Calls Tryz.prog 166 #[] w fun e w' => e = .returned (.agg T187) ∧ Below w.heap.size w w' := by
  obtain ⟨P, hP⟩ : ∃ P : Ending → World → Prop, P = (fun e w' => e = .returned (.agg T187) ∧ Below w.heap.size w w') := ⟨_, rfl⟩
  rw [← hP]
  have HP := Aside0.mk hP
  clear hP
  go_enter Tryz.func166, Tryz.ntmps166
  go_wp2
  refine bodyPost_ret (res_c (p := 0) _ rfl rfl (heap_new _ _) u187 rfl i187) rfl ?_
  rw [HP.out]
  exact ⟨rfl, below_alloc (Below.refl _ _) _⟩
theorem bits_xor_u32_nat (a b : Nat) (ha : a < 4294967296) (hb : b < 4294967296) : bits .xor .u32 (a : Int) (b : Int) = ((a ^^^ b : Nat) : Int) := by
  have hx : a ^^^ b < 2 ^ 32 := Nat.xor_lt_two_pow (by omega) (by omega)
  have h1 : (BitVec.ofInt 32 (a : Int)).toNat = a := by
    rw [BitVec.ofInt_natCast, BitVec.toNat_ofNat]; exact Nat.mod_eq_of_lt (by omega)
  have h2 : (BitVec.ofInt 32 (b : Int)).toNat = b := by
    rw [BitVec.ofInt_natCast, BitVec.toNat_ofNat]; exact Nat.mod_eq_of_lt (by omega)
  show IntKind.u32.wrap ((BitVec.ofInt 32 (a : Int) ^^^ BitVec.ofInt 32 (b : Int)).toNat : Int) = _
  rw [BitVec.toNat_xor, h1, h2, IntKind.wrap_u32]
  omega
theorem bits_not (a : Nat) (ha : a < 4294967296) : bits .xor .u32 IntKind.u32.max (a : Int) = 4294967295 - (a : Int) := by
  have h1 : BitVec.ofInt 32 IntKind.u32.max = BitVec.allOnes 32 := by decide
  have h2 : (BitVec.ofInt 32 (a : Int)).toNat = a := by
    rw [BitVec.ofInt_natCast, BitVec.toNat_ofNat]; exact Nat.mod_eq_of_lt (by omega)
  show IntKind.u32.wrap ((BitVec.ofInt 32 IntKind.u32.max ^^^ BitVec.ofInt 32 (a : Int)).toNat : Int) = _
  rw [h1, BitVec.allOnes_xor, BitVec.toNat_not, h2, IntKind.wrap_u32]
  omega
theorem bits_low (a : Nat) (ha : a < 4294967296) : bits .and .u32 (a : Int) 15 = ((a % 16 : Nat) : Int) := by
  have h := bits_mask .u32 32 (by decide) (fun n h0 h1 => by rw [IntKind.wrap_u32]; omega) 4 (by decide) (a : Int) (by omega) (by omega)
  simpa using h
set_option maxRecDepth 100000 in
theorem half_calls (g gt s : Nat) (hs : s < 4294967296) (w : World) (hg : w.heap[g]? = some (.cells #[.int .u32 (s : Int)] 29 (0, 0))) (ht : w.heap[gt]? = some (.cells T187 246 (0, 0))) (hne : g ≠ gt) :
    Calls Tryz.prog 167 #[.pointer (some ⟨g, 0, none⟩), .pointer (some ⟨gt, 0, none⟩)] w fun e w' => e = .returned (.tuple #[]) ∧ w'.heap[g]? = some (.cells #[.int .u32 (halfN s : Int)] 29 (0, 0)) ∧ KeepBut w w' g none ∧ ∀ B : World, Below B.heap.size B w → B.heap.size ≤ g → Below B.heap.size B w' := by
  obtain ⟨P, hP⟩ : ∃ P : Ending → World → Prop, P = (fun e w' => e = .returned (.tuple #[]) ∧ w'.heap[g]? = some (.cells #[.int .u32 (halfN s : Int)] 29 (0, 0)) ∧ KeepBut w w' g none ∧ ∀ B : World, Below B.heap.size B w → B.heap.size ≤ g → Below B.heap.size B w') := ⟨_, rfl⟩
  rw [← hP]
  have HP := Aside0.mk hP
  have HG := Aside0.mk (And.intro hg ht)
  obtain ⟨r, hr⟩ : ∃ r, r = s % 16 := ⟨_, rfl⟩
  obtain ⟨u, hu⟩ : ∃ u, u = s / 16 := ⟨_, rfl⟩
  obtain ⟨y, hy⟩ : ∃ y, y = tab.getD r 0 := ⟨_, rfl⟩
  have b1 := bits_low s hs
  have b2 := bits_xor_u32_nat u y (by omega) (by rw [hy]; exact tab_lt _)
  rw [← hr] at b1
  have hr16 : r < 16 := by omega
  have hsh : (s : Int) / 16 = (u : Int) := by omega
  obtain ⟨z, hz⟩ : ∃ z, z = u ^^^ y := ⟨_, rfl⟩
  rw [← hz] at b2
  have HY := Aside0.mk (show z = halfN s by rw [hz, hu, hy, hr]; rfl)
  have HT := Aside0.mk (show T187[r]? = some (.int .u32 (y : Int)) by rw [hy]; exact T_at r hr16)
  clear hP hg ht hr hu hy hz
  go_enter Tryz.func167, Tryz.ntmps167
  refine wp_region_held_drew (S := fun _ => True) (by kernel_rfl) trivial (fun hW => ?_)
  have HB := Aside0.mk (below_drew (Below.refl w.heap.size w))
  generalize w.drew = W at *
  have HG1 := Aside0.mk (And.intro (blk_below HG.out.1 HB.out) (blk_below HG.out.2 HB.out))
  have x0 : W.cell? ⟨g, 0, none⟩ = some (.int .u32 (s : Int)) := by rw [cell_of_row _ _ 0 _ 29 (0, 0) HG1.out.1]; rfl
  have x1 : W.cell? ⟨gt, r, none⟩ = some (.int .u32 (y : Int)) := by rw [cell_of_row _ _ r _ 246 (0, 0) HG1.out.2]; exact HT.out
  have x2 : W.frozen? ⟨g, 0, none⟩ = false := frozen_of_row W g 0 _ 29 HG1.out.1
  clear HG
  refine wpAnyH_ready (rs := [0, 2]) (by kernel_rfl) (by simp) (AllReadyH.cons rfl (fun K1 hK1 => ?_) (AllReadyH.cons rfl (fun K2 hK2 => ?_) AllReadyH.nil))
  · skip
    go_simp
    refine hK1.out _ _ trivial (fun _ => ?_)
    try simp only [Act.put, List.setIfInBounds_toArray, List.set_cons_zero, List.set_cons_succ]
    refine wpAnyH_take (i := 1) (oi := ⟨some 3, _, _, _, _, _⟩) (v := .int .u32 (u : Int)) rfl (by kernel_rfl) (by kernel_rfl) (by kernel_rfl) (fun _ _ _ h => h) (.inl ⟨by rfl, fun W1 h1 => by go_simp⟩) trivial ?_
    try simp only [Act.put, List.setIfInBounds_toArray, List.set_cons_zero, List.set_cons_succ]
    refine wpAnyH_ready (rs := [2]) (by kernel_rfl) (by simp) (AllReadyH.cons rfl (fun K3 hK3 => ?_) AllReadyH.nil)
    go_simp
    refine hK3.out _ _ trivial (fun _ => ?_)
    try simp only [Act.put, List.setIfInBounds_toArray, List.set_cons_zero, List.set_cons_succ]
    refine wpAnyH_take (i := 3) (oi := ⟨some 5, _, _, _, _, _⟩) (v := .int .u32 (r : Int)) rfl (by kernel_rfl) (by kernel_rfl) (by kernel_rfl) (fun _ _ _ h => h) (.inl ⟨by rfl, fun W1 h1 => by go_simp⟩) trivial ?_
    try simp only [Act.put, List.setIfInBounds_toArray, List.set_cons_zero, List.set_cons_succ]
    refine wpAnyH_take (i := 4) (oi := ⟨some 6, _, _, _, _, _⟩) (v := .pointer (some ⟨gt, r, none⟩)) rfl (by kernel_rfl) (by kernel_rfl) (by kernel_rfl) (fun _ _ _ h => h) (.inl ⟨by rfl, fun W1 h1 => by (go_simp; intro hbad; omega)⟩) trivial ?_
    try simp only [Act.put, List.setIfInBounds_toArray, List.set_cons_zero, List.set_cons_succ]
    refine wpAnyH_ready (rs := [5]) (by kernel_rfl) (by simp) (AllReadyH.cons rfl (fun K4 hK4 => ?_) AllReadyH.nil)
    go_simp
    refine hK4.out _ _ trivial (fun _ => ?_)
    try simp only [Act.put, List.setIfInBounds_toArray, List.set_cons_zero, List.set_cons_succ]
    refine wpAnyH_take (i := 6) (oi := ⟨some 8, _, _, _, _, _⟩) (v := .int .u32 (z : Int)) rfl (by kernel_rfl) (by kernel_rfl) (by kernel_rfl) (fun _ _ _ h => h) (.inl ⟨by rfl, fun W1 h1 => by go_simp⟩) trivial ?_
    try simp only [Act.put, List.setIfInBounds_toArray, List.set_cons_zero, List.set_cons_succ]
    refine wpAnyH_ready (rs := [7]) (by kernel_rfl) (by simp) (AllReadyH.cons rfl (fun K9 hK9 => ?_) AllReadyH.nil)
    go_simp
    refine hK9.out _ _ trivial (fun _ => ?_)
    try simp only [Act.put, List.setIfInBounds_toArray, List.set_cons_zero, List.set_cons_succ]
    refine wpAnyH_done (by kernel_rfl) ?_ _
    go_wp2
    go_end0
    rw [HP.out]
    exact ⟨rfl, by rw [← HY.out]; exact one_setCell HG1.out.1, (KeepBut.of_below HB.out g none).set_ 0 _, fun B hB hg => (below_then hB hB.size HB.out).setCell hg _⟩
  · skip
    go_simp
    refine hK2.out _ _ trivial (fun _ => ?_)
    try simp only [Act.put, List.setIfInBounds_toArray, List.set_cons_zero, List.set_cons_succ]
    refine wpAnyH_take (i := 3) (oi := ⟨some 5, _, _, _, _, _⟩) (v := .int .u32 (r : Int)) rfl (by kernel_rfl) (by kernel_rfl) (by kernel_rfl) (fun _ _ _ h => h) (.inl ⟨by rfl, fun W1 h1 => by go_simp⟩) trivial ?_
    try simp only [Act.put, List.setIfInBounds_toArray, List.set_cons_zero, List.set_cons_succ]
    refine wpAnyH_take (i := 4) (oi := ⟨some 6, _, _, _, _, _⟩) (v := .pointer (some ⟨gt, r, none⟩)) rfl (by kernel_rfl) (by kernel_rfl) (by kernel_rfl) (fun _ _ _ h => h) (.inl ⟨by rfl, fun W1 h1 => by (go_simp; intro hbad; omega)⟩) trivial ?_
    try simp only [Act.put, List.setIfInBounds_toArray, List.set_cons_zero, List.set_cons_succ]
    refine wpAnyH_ready (rs := [0, 5]) (by kernel_rfl) (by simp) (AllReadyH.cons rfl (fun K3 hK3 => ?_) (AllReadyH.cons rfl (fun K4 hK4 => ?_) AllReadyH.nil))
    · skip
      go_simp
      refine hK3.out _ _ trivial (fun _ => ?_)
      try simp only [Act.put, List.setIfInBounds_toArray, List.set_cons_zero, List.set_cons_succ]
      refine wpAnyH_take (i := 1) (oi := ⟨some 3, _, _, _, _, _⟩) (v := .int .u32 (u : Int)) rfl (by kernel_rfl) (by kernel_rfl) (by kernel_rfl) (fun _ _ _ h => h) (.inl ⟨by rfl, fun W1 h1 => by go_simp⟩) trivial ?_
      try simp only [Act.put, List.setIfInBounds_toArray, List.set_cons_zero, List.set_cons_succ]
      refine wpAnyH_ready (rs := [5]) (by kernel_rfl) (by simp) (AllReadyH.cons rfl (fun K5 hK5 => ?_) AllReadyH.nil)
      go_simp
      refine hK5.out _ _ trivial (fun _ => ?_)
      try simp only [Act.put, List.setIfInBounds_toArray, List.set_cons_zero, List.set_cons_succ]
      refine wpAnyH_take (i := 6) (oi := ⟨some 8, _, _, _, _, _⟩) (v := .int .u32 (z : Int)) rfl (by kernel_rfl) (by kernel_rfl) (by kernel_rfl) (fun _ _ _ h => h) (.inl ⟨by rfl, fun W1 h1 => by go_simp⟩) trivial ?_
      try simp only [Act.put, List.setIfInBounds_toArray, List.set_cons_zero, List.set_cons_succ]
      refine wpAnyH_ready (rs := [7]) (by kernel_rfl) (by simp) (AllReadyH.cons rfl (fun K9 hK9 => ?_) AllReadyH.nil)
      go_simp
      refine hK9.out _ _ trivial (fun _ => ?_)
      try simp only [Act.put, List.setIfInBounds_toArray, List.set_cons_zero, List.set_cons_succ]
      refine wpAnyH_done (by kernel_rfl) ?_ _
      go_wp2
      go_end0
      rw [HP.out]
      exact ⟨rfl, by rw [← HY.out]; exact one_setCell HG1.out.1, (KeepBut.of_below HB.out g none).set_ 0 _, fun B hB hg => (below_then hB hB.size HB.out).setCell hg _⟩
    · skip
      go_simp
      refine hK4.out _ _ trivial (fun _ => ?_)
      try simp only [Act.put, List.setIfInBounds_toArray, List.set_cons_zero, List.set_cons_succ]
      refine wpAnyH_ready (rs := [0]) (by kernel_rfl) (by simp) (AllReadyH.cons rfl (fun K5 hK5 => ?_) AllReadyH.nil)
      go_simp
      refine hK5.out _ _ trivial (fun _ => ?_)
      try simp only [Act.put, List.setIfInBounds_toArray, List.set_cons_zero, List.set_cons_succ]
      refine wpAnyH_take (i := 1) (oi := ⟨some 3, _, _, _, _, _⟩) (v := .int .u32 (u : Int)) rfl (by kernel_rfl) (by kernel_rfl) (by kernel_rfl) (fun _ _ _ h => h) (.inl ⟨by rfl, fun W1 h1 => by go_simp⟩) trivial ?_
      try simp only [Act.put, List.setIfInBounds_toArray, List.set_cons_zero, List.set_cons_succ]
      refine wpAnyH_take (i := 6) (oi := ⟨some 8, _, _, _, _, _⟩) (v := .int .u32 (z : Int)) rfl (by kernel_rfl) (by kernel_rfl) (by kernel_rfl) (fun _ _ _ h => h) (.inl ⟨by rfl, fun W1 h1 => by go_simp⟩) trivial ?_
      try simp only [Act.put, List.setIfInBounds_toArray, List.set_cons_zero, List.set_cons_succ]
      refine wpAnyH_ready (rs := [7]) (by kernel_rfl) (by simp) (AllReadyH.cons rfl (fun K9 hK9 => ?_) AllReadyH.nil)
      go_simp
      refine hK9.out _ _ trivial (fun _ => ?_)
      try simp only [Act.put, List.setIfInBounds_toArray, List.set_cons_zero, List.set_cons_succ]
      refine wpAnyH_done (by kernel_rfl) ?_ _
      go_wp2
      go_end0
      rw [HP.out]
      exact ⟨rfl, by rw [← HY.out]; exact one_setCell HG1.out.1, (KeepBut.of_below HB.out g none).set_ 0 _, fun B hB hg => (below_then hB hB.size HB.out).setCell hg _⟩

set_option maxRecDepth 100000 in
set_option maxHeartbeats 400000 in
theorem go_calls (A : Option Addr) (c n : Nat) (l : List Int) (hn : n = l.length) (w : World) (hr : C8 w A n l) (hb : Byt l) :
    Calls Tryz.prog 158 #[.int .u32 0, .slice A n c] w fun e w' => e = .returned (.int .u32 (sumN l : Int)) ∧ Below w.heap.size w w' := by
  obtain ⟨P, hP⟩ : ∃ P : Ending → World → Prop, P = (fun e w' => e = .returned (.int .u32 (sumN l : Int)) ∧ Below w.heap.size w w') := ⟨_, rfl⟩
  rw [← hP]
  have HP := Aside0.mk hP
  have HR := Aside0.mk (And.intro hn (And.intro hr hb))
  have hnm : n ≤ 9223372036854775807 := Kd.C_max hr
  clear hP hn hr hb
  go_enter Tryz.func158, Tryz.ntmps158
  go_wp2_with fail
  refine (halves_calls _).mono ?_
  rintro e w1 ⟨rfl, hb1⟩
  have B0 := below_then (hb1.alloc hb1.size (.cells T187 246)) (by simp; exact Nat.le_succ_of_le hb1.size) (below_alloc (Below.refl _ _) (.cells #[.int .u32 4294967295] 29))
  have B1 := Aside0.mk B0
  have b1 := blk_below (blk_new w1 (.cells T187 246)) (below_alloc (Below.refl _ (w1.alloc (.cells T187 246))) (.cells #[.int .u32 4294967295] 29))
  have b2 := blk_new (w1.alloc (.cells T187 246)) (.cells #[.int .u32 4294967295] 29)
  simp only [World.size_alloc] at b2
  have G1 := Aside0.mk (And.intro b2 b1)
  have hsz := hb1.size
  have e0 : bits .xor .u32 IntKind.u32.max 0 = 4294967295 := bits_not 0 (by decide)
  clear hb1 B0 b1 b2
  go_wp2
  clear e0
  go_loopw [16] (fun v16 wr => ∃ (j s : Nat), v16 = .int .i64 (j : Int) ∧ j ≤ n ∧ s < 4294967296 ∧ Aside0 (s = crcN 4294967295 (l.take j)) ∧ Aside0 (wr.heap[w1.heap.size + 1]? = some (.cells #[.int .u32 (s : Int)] 29 (0, 0)) ∧ wr.heap[w1.heap.size]? = some (.cells T187 246 (0, 0))) ∧ Aside0 (Below w.heap.size w wr)) (fun v _ => n - (intOf v).toNat)
  case atStart => exact ⟨0, 4294967295, rfl, by omega, by omega, ⟨by simp [crcN]⟩, G1, B1⟩
  case round =>
    obtain ⟨j, s, rfl, hj, hs, Hs, HG, HB⟩ := hrel
    have x6 : wr.cell? ⟨w1.heap.size + 1, 0, none⟩ = some (.int .u32 (s : Int)) := by rw [cell_of_row _ _ 0 _ 29 (0, 0) HG.out.1]; rfl
    clear G1 B1
    by_cases hlt : j < n
    · obtain ⟨bq, off, rfl, hbq, hx⟩ := C_at 0 (Kd.C_below HR.out.2.1 HB.out) (by omega)
      obtain ⟨q, hq, hq1, hq2⟩ := Go.Proofs.YtchhdafgmifhdaaGreat.CrcB.byte_at HR.out.2.2 (j := j) (by rw [← HR.out.1]; exact hlt)
      have hx0 := hx j hlt
      rw [hq1] at hx0
      have HQ := Aside0.mk hq2
      have x7 : wr.frozen? ⟨w1.heap.size + 1, 0, none⟩ = false := frozen_of_row wr _ 0 _ 29 HG.out.1
      clear hx hq1 hq2
      have hqm : (q : Int) % 4294967296 = q := by omega
      obtain ⟨t, ht⟩ : ∃ t, t = s ^^^ q := ⟨_, rfl⟩
      have htl : t < 4294967296 := by rw [ht]; exact Nat.xor_lt_two_pow (n := 32) hs (by omega)
      have b2 := bits_xor_u32_nat s q hs (by omega)
      rw [← ht] at b2
      have HT := Aside0.mk ht
      have G2 := Aside0.mk (And.intro (show (wr.setCell ⟨w1.heap.size + 1, 0, none⟩ (.int .u32 (t : Int))).heap[w1.heap.size + 1]? = some (.cells #[.int .u32 (t : Int)] 29 (0, 0)) from one_setCell HG.out.1) ((KeepBut.set_ (KeepBut.refl wr (w1.heap.size + 1) none) 0 (.int .u32 (t : Int))).blk HG.out.2 (by omega) (by simp)))
      have B2 := Aside0.mk (HB.out.setCell (p := ⟨w1.heap.size + 1, 0, none⟩) (show w.heap.size ≤ w1.heap.size + 1 by omega) (.int .u32 (t : Int)))
      clear ht HB HG
      go_wp2_with fail
      refine (half_calls _ _ t htl _ G2.out.1 G2.out.2 (by omega)).mono ?_
      rintro e w2 ⟨rfl, g3, k3, f3⟩
      have G3 := Aside0.mk (And.intro g3 (k3.blk G2.out.2 (by omega) (by simp)))
      have B3 := Aside0.mk (f3 _ B2.out (by omega))
      clear g3 k3 f3 G2 B2 x6 x7 hx0 b2
      go_wp2_with fail
      refine (half_calls _ _ (halfN t) (halfN_lt htl) _ G3.out.1 G3.out.2 (by omega)).mono ?_
      rintro e w3 ⟨rfl, g4, k4, f4⟩
      have G4 := Aside0.mk (And.intro g4 (k4.blk G3.out.2 (by omega) (by simp)))
      have B4 := Aside0.mk (f4 _ B3.out (by omega))
      clear g4 k4 f4 G3 B3
      go_wp2
      go_roundw
      case rel => exact ⟨j + 1, halfN (halfN t), by go_num, by omega, halfN_lt (halfN_lt htl), ⟨by rw [HQ.out, crcN_snoc, ← Hs.out, HT.out]; rfl⟩, G4, B4⟩
      case measure => simp [intOf]; omega
    · have bn := bits_not s hs
      go_wp2
      rw [HP.out]
      refine ⟨?_, HB.out⟩
      have e : s = crcN 4294967295 l := by rw [Hs.out, show j = l.length from by rw [← HR.out.1]; omega, List.take_length]
      show Ending.returned (Value.int .u32 (4294967295 - (s : Int))) = _
      rw [show ((4294967295 : Int) - (s : Int)) = ((sumN l : Nat) : Int) from by unfold sumN; rw [← e]; omega]

set_option maxRecDepth 100000 in
theorem sum_calls (A : Option Addr) (c n : Nat) (l : List Int) (hn : n = l.length) (w : World) (hr : C8 w A n l) (hb : Byt l) :
    Calls Tryz.prog 149 #[.slice A n c] w fun e w' => e = .returned (.int .u32 (sumN l : Int)) ∧ Below w.heap.size w w' := by
  obtain ⟨P, hP⟩ : ∃ P : Ending → World → Prop, P = (fun e w' => e = .returned (.int .u32 (sumN l : Int)) ∧ Below w.heap.size w w') := ⟨_, rfl⟩
  rw [← hP]
  have HP := Aside0.mk hP
  have HR := Aside0.mk (And.intro hn (And.intro hr hb))
  clear hP hn hr hb
  go_enter Tryz.func149, Tryz.ntmps149
  go_wp2_with fail
  refine (go_calls A c n l HR.out.1 _ HR.out.2.1 HR.out.2.2).mono ?_
  rintro e w1 ⟨rfl, hb1⟩
  have HB := Aside0.mk hb1
  clear hb1
  go_wp2
  rw [HP.out]
  exact ⟨rfl, HB.out⟩
end Go.Proofs.YtchhdafgmifhdaaGreat.CrcC
namespace Go.Proofs.YtchhdafgmifhdaaGreat.ExtA
open Go.RowKit Go.Proofs.YtchhdafgmifhdaaGreat.B8 Go.Proofs.YtchhdafgmifhdaaGreat.Agg Go.Proofs.YtchhdafgmifhdaaGreat.CodL Go.Proofs.YtchhdafgmifhdaaGreat.CodA Go.Proofs.YtchhdafgmifhdaaGreat.CodB Go.Proofs.YtchhdafgmifhdaaGreat.CrcL Go.Proofs.YtchhdafgmifhdaaGreat.CrcA Go.Proofs.YtchhdafgmifhdaaGreat.CrcB Go.Proofs.YtchhdafgmifhdaaGreat.PVerifyForms Go.Proofs.YtchhdafgmifhdaaGreatW.PrintWords Go.Proofs.YtchhdafgmifhdaaGreatW.PrintLast Go.Proofs.YtchhdafgmifhdaaGreatW.PrintMore Go.Proofs.YtchhdafgmifhdaaGreat.ExtL
set_option linter.unusedVariables false
set_option linter.unusedSimpArgs false
/-- A span, as a kind. -/
def kS : Kd Sp where
  sz := 2
  E := []
  K := fun _ s cs => cs = [.int .i64 s.1, .int .i64 s.2]
  M := fun _ _ _ s cs => cs = [.int .i64 s.1, .int .i64 s.2]
  K_len := fun h => by rw [h]; rfl
  K_one := fun h u hu => by
    rw [h] at hu
    simp only [List.mem_cons, List.not_mem_nil, or_false] at hu
    rcases hu with rfl | rfl <;> rfl
  K_below := fun _ h => h
  K_of_M := fun h => h
  M_mono := fun _ h => h
  M_bound := fun h => h
  M_move := fun _ h => h
  M_lower := fun _ h => h
/-- Where a row of spans lies. -/
theorem CS_at {w : World} {A : Option Addr} {n : Nat} {l : List Sp} (h : Kd.C kS w A n l) (h0 : 0 < n) :
    ∃ b off, A = some ⟨b, off, none⟩ ∧ b < w.heap.size ∧ ∀ i, i < n → w.cell? ⟨b, off + i * 2, none⟩ = some (.int .i64 (l.getD i (0, 0)).1) ∧ w.cell? ⟨b, off + i * 2 + 1, none⟩ = some (.int .i64 (l.getD i (0, 0)).2) := by
  have each : ∀ i, i < n → ∃ ad, A = some ad ∧ w.cell? (ad.add (i * 2)) = some (.int .i64 (l.getD i (0, 0)).1) ∧ w.cell? (ad.add (i * 2 + 1)) = some (.int .i64 (l.getD i (0, 0)).2) := by
    intro i hi
    obtain ⟨ad, c, e, _, hk, hj⟩ := Kd.C_get h ((0, 0) : Sp) (i : Int) (by omega) (by omega)
    rw [Int.toNat_natCast] at hk hj
    have hk : c = [.int .i64 (l.getD i (0, 0)).1, .int .i64 (l.getD i (0, 0)).2] := hk
    subst hk
    exact ⟨ad, e, hj 0 _ rfl, hj 1 _ rfl⟩
  obtain ⟨ad, e, g0, _⟩ := each 0 h0
  have hs : ad.spot = none := by
    have := World.cell?_spot g0
    rwa [show ad.add (0 * 2) = ad from rfl] at this
  obtain ⟨b, off, s⟩ := ad
  simp only at hs
  subst hs
  refine ⟨b, off, e, World.block_lt_of_cell? w _ g0, fun i hi => ?_⟩
  obtain ⟨ad', e', q0, q1⟩ := each i hi
  rw [e] at e'
  injection e' with e'
  subst e'
  rw [add_at] at q0 q1
  exact ⟨q0, by rw [← Nat.add_assoc] at q1; exact q1⟩
set_option maxRecDepth 100000 in
theorem right_calls (s : Sp) (w : World) : Calls Tryz.prog 104 #[.agg #[.int .i64 s.1, .int .i64 s.2]] w fun e w' => e = .returned (.bool (decide (okS s))) ∧ Below w.heap.size w w' := by
  obtain ⟨x, y⟩ := s
  have HB := Aside0.mk (below_alloc (Below.refl w.heap.size w) (.cells #[.int .i64 x, .int .i64 y] 136))
  have q0 : (w.alloc (.cells #[.int .i64 x, .int .i64 y] 136)).cell? ⟨w.heap.size, 0, none⟩ = some (.int .i64 x) := by rw [cell_of_row _ _ 0 _ 136 (0, 0) (blk_new w _)]; rfl
  have q1 : (w.alloc (.cells #[.int .i64 x, .int .i64 y] 136)).cell? ⟨w.heap.size, 1, none⟩ = some (.int .i64 y) := by rw [cell_of_row _ _ 1 _ 136 (0, 0) (blk_new w _)]; rfl
  have hd : decide (okS (x, y)) = (decide (0 ≤ x) && (decide (x < y) && decide (y ≤ 1099511627776))) := by
    rw [Bool.eq_iff_iff]
    simp only [decide_eq_true_eq, Bool.and_eq_true]
    exact Iff.rfl
  rw [hd]
  obtain ⟨P, hP⟩ : ∃ P : Ending → World → Prop, P = (fun e w' => e = .returned (.bool (decide (0 ≤ x) && (decide (x < y) && decide (y ≤ 1099511627776)))) ∧ Below w.heap.size w w') := ⟨_, rfl⟩
  rw [← hP]
  have HP := Aside0.mk hP
  clear hP hd
  by_cases h1 : 0 ≤ x
  · have d1 : decide (0 ≤ x) = true := decide_eq_true h1
    by_cases h2 : x < y
    · have d2 : decide (x < y) = true := decide_eq_true h2
      by_cases h3 : y ≤ 1099511627776
      · have d3 : decide (y ≤ 1099511627776) = true := decide_eq_true h3
        have HD := Aside0.mk (And.intro d1 (And.intro d2 d3))
        go_enter Tryz.func104, Tryz.ntmps104
        go_wp2
        rw [HP.out, HD.out.1, HD.out.2.1, HD.out.2.2]
        exact ⟨rfl, HB.out⟩
      · have d3 : decide (y ≤ 1099511627776) = false := decide_eq_false h3
        have HD := Aside0.mk (And.intro d1 (And.intro d2 d3))
        go_enter Tryz.func104, Tryz.ntmps104
        go_wp2
        rw [HP.out, HD.out.1, HD.out.2.1, HD.out.2.2]
        exact ⟨rfl, HB.out⟩
    · have d2 : decide (x < y) = false := decide_eq_false h2
      have HD := Aside0.mk (And.intro d1 d2)
      go_enter Tryz.func104, Tryz.ntmps104
      go_wp2
      rw [HP.out, HD.out.1, HD.out.2]
      exact ⟨rfl, HB.out⟩
  · have d1 : decide (0 ≤ x) = false := decide_eq_false h1
    have HD := Aside0.mk d1
    go_enter Tryz.func104, Tryz.ntmps104
    go_wp2
    rw [HP.out, HD.out]
    exact ⟨rfl, HB.out⟩
set_option maxRecDepth 100000 in
set_option maxHeartbeats 2000000 in
theorem valid_calls (A : Option Addr) (c n : Nat) (l : List Sp) (w : World) (hr : Kd.C kS w A n l) (hnc : n ≤ c) (hm : n ≤ 100000) :
    Calls Tryz.prog 62 #[.slice A n c] w fun e w' => e = .returned (.bool (decide (VS (-1) l))) ∧ Below w.heap.size w w' := by
  have HR := Aside0.mk hr
  have HL := Aside0.mk hr.1
  obtain ⟨P, hP⟩ : ∃ P : Ending → World → Prop, P = (fun e w' => e = .returned (.bool (decide (VS (-1) l))) ∧ Below w.heap.size w w') := ⟨_, rfl⟩
  rw [← hP]
  have HP := Aside0.mk hP
  clear hP hr
  go_enter Tryz.func62, Tryz.ntmps62
  go_wp2
  go_loopw [3, 8] (fun v3 v8 wr => ∃ (i : Nat) (last : Int), v3 = .int .i64 last ∧ v8 = .int .i64 (i : Int) ∧ i ≤ n ∧ -1 ≤ last ∧ Aside0 (VS (-1) l ↔ VS last (l.drop i)) ∧ Aside0 (Below w.heap.size w wr)) (fun _ v _ => n - (intOf v).toNat)
  case atStart => exact ⟨0, -1, rfl, rfl, Nat.zero_le _, Int.le_refl _, ⟨Iff.rfl⟩, ⟨Below.refl _ _⟩⟩
  case round =>
    obtain ⟨i, last, rfl, rfl, hi, hl1, HV, HB⟩ := hrel
    by_cases hlt : i < n
    · obtain ⟨b0, off0, rfl, hb0, hx0⟩ := CS_at HR.out (by omega)
      obtain ⟨x0, x1⟩ := hx0 i hlt
      obtain ⟨s, hs⟩ : ∃ s, s = l.getD i (0, 0) := ⟨_, rfl⟩
      rw [← hs] at x0 x1
      have HDR := Aside0.mk (show l.drop i = s :: l.drop (i + 1) by
        rw [hs, List.getD_eq_getElem?_getD, List.getElem?_eq_getElem (by have := HL.out; omega)]
        exact List.drop_eq_getElem_cons _)
      replace x0 := (HB.out.cell (p := ⟨b0, off0 + i * 2, none⟩) hb0).trans x0
      replace x1 := (HB.out.cell (p := ⟨b0, off0 + i * 2 + 1, none⟩) hb0).trans x1
      obtain ⟨x, y⟩ := s
      simp only at x0 x1
      have HB1 := Aside0.mk (below_then HB.out HB.out.size (below_alloc (Below.refl _ _) (.cells #[.int .i64 x, .int .i64 y] 136)))
      have HG := Aside0.mk (blk_new wr (.cells #[.int .i64 x, .int .i64 y] 136))
      clear hs hx0 hb0
      go_wp2_with fail
      generalize hW1 : wr.alloc (.cells #[.int .i64 x, .int .i64 y] 136) = W1 at *
      clear hW1
      refine (right_calls (x, y) W1).mono ?_
      rintro e w2 ⟨he, hb2⟩
      have HB2 := Aside0.mk (below_then HB1.out HB1.out.size hb2)
      have hg2 := blk_below HG.out hb2
      have q0 : w2.cell? ⟨wr.heap.size, 0, none⟩ = some (.int .i64 x) := by rw [cell_of_row _ _ 0 _ 136 (0, 0) hg2]; rfl
      have q1 : w2.cell? ⟨wr.heap.size, 1, none⟩ = some (.int .i64 y) := by rw [cell_of_row _ _ 1 _ 136 (0, 0) hg2]; rfl
      clear hb2 hg2 x0 x1
      by_cases hok : okS (x, y)
      · rw [decide_eq_true hok] at he
        subst he
        by_cases hlx : last < x
        · have hd : decide (x ≤ last) = false := decide_eq_false (by omega)
          have hy : -1 ≤ y := by have := hok.1; have := hok.2.1; simp only at *; omega
          have HV2 := Aside0.mk (show VS (-1) l ↔ VS y (l.drop (i + 1)) by
            rw [HV.out, HDR.out]
            exact ⟨fun h => h.2.2.2, fun h => ⟨hlx, hok.2.1, hok.2.2, h⟩⟩)
          clear hok
          go_wp2
          go_roundw
          case rel => exact ⟨i + 1, y, rfl, by go_num, by omega, hy, HV2, HB2⟩
          case measure => simp [intOf]; omega
        · have hd : decide (x ≤ last) = true := decide_eq_true (by omega)
          have HF := Aside0.mk (show decide (VS (-1) l) = false from decide_eq_false (by
            rw [HV.out, HDR.out]
            exact fun h => hlx h.1))
          clear hok
          go_wp2
          rw [HP.out, HF.out]
          exact ⟨rfl, HB2.out⟩
      · rw [decide_eq_false hok] at he
        subst he
        have HF := Aside0.mk (show decide (VS (-1) l) = false from decide_eq_false (by
          rw [HV.out, HDR.out]
          exact fun h => hok ⟨by have := h.1; simp only at this ⊢; omega, h.2.1, h.2.2.1⟩))
        clear hok
        go_wp2
        rw [HP.out, HF.out]
        exact ⟨rfl, HB2.out⟩
    · have HF := Aside0.mk (show decide (VS (-1) l) = true from decide_eq_true (by
        rw [HV.out, List.drop_of_length_le (by have := HL.out; omega)]
        trivial))
      go_wp2
      rw [HP.out, HF.out]
      exact ⟨rfl, HB.out⟩
theorem total_bound {l : List Sp} (h : VS (-1) l) : 0 ≤ total l ∧ total l ≤ 1099511627777 := by
  refine ⟨total_nonneg h, ?_⟩
  have := total_le h (m := 1099511627776) (fun s hs => (h.mem hs).2.2) (by omega)
  omega
theorem VS_tail : ∀ {last : Int} {l : List Sp}, VS last l → ∀ i, ∃ last', VS last' (l.drop i)
  | last, l, h, 0 => ⟨last, h⟩
  | last, [], h, i + 1 => ⟨last, trivial⟩
  | last, s :: l, h, i + 1 => VS_tail h.2.2.2 i
theorem i64_small {x : Int} (h1 : -4611686018427387904 ≤ x) (h2 : x ≤ 4611686018427387904) : IntKind.i64.wrap x = x := by rw [IntKind.wrap_i64]; omega
set_option maxRecDepth 100000 in
set_option maxHeartbeats 2000000 in
theorem total_calls (A : Option Addr) (c n : Nat) (l : List Sp) (w : World) (hr : Kd.C kS w A n l) (hnc : n ≤ c) (hm : n ≤ 100000) (hv : VS (-1) l) :
    Calls Tryz.prog 27 #[.slice A n c] w fun e w' => e = .returned (.int .i64 (total l)) ∧ Below w.heap.size w w' := by
  have HR := Aside0.mk hr
  have HL := Aside0.mk hr.1
  have HV := Aside0.mk hv
  obtain ⟨P, hP⟩ : ∃ P : Ending → World → Prop, P = (fun e w' => e = .returned (.int .i64 (total l)) ∧ Below w.heap.size w w') := ⟨_, rfl⟩
  rw [← hP]
  have HP := Aside0.mk hP
  clear hP hr hv
  go_enter Tryz.func27, Tryz.ntmps27
  go_wp2_with fail
  refine (valid_calls A c n l w HR.out hnc hm).mono ?_
  rintro e w1 ⟨he, hb1⟩
  rw [decide_eq_true HV.out] at he
  subst he
  have HB1 := Aside0.mk hb1
  clear hb1
  go_wp2
  go_loopw [3, 11] (fun v3 v11 wr => ∃ (i : Nat) (s : Int), v3 = .int .i64 s ∧ v11 = .int .i64 (i : Int) ∧ i ≤ n ∧ 0 ≤ s ∧ s ≤ 1099511627777 ∧ Aside0 (s + total (l.drop i) = total l) ∧ Aside0 (Below w.heap.size w wr)) (fun _ v _ => n - (intOf v).toNat)
  case atStart => exact ⟨0, 0, rfl, rfl, Nat.zero_le _, Int.le_refl _, by omega, ⟨by simp⟩, HB1⟩
  case round =>
    clear HB1
    obtain ⟨i, s, rfl, rfl, hi, hs0, hs1, HS, HB⟩ := hrel
    by_cases hlt : i < n
    · obtain ⟨b0, off0, rfl, hb0, hx0⟩ := CS_at HR.out (by omega)
      obtain ⟨x0, x1⟩ := hx0 i hlt
      obtain ⟨sp, hsp⟩ : ∃ s, s = l.getD i (0, 0) := ⟨_, rfl⟩
      rw [← hsp] at x0 x1
      have hdr : l.drop i = sp :: l.drop (i + 1) := by
        rw [hsp, List.getD_eq_getElem?_getD, List.getElem?_eq_getElem (by have := HL.out; omega)]
        exact List.drop_eq_getElem_cons _
      replace x0 := (HB.out.cell (p := ⟨b0, off0 + i * 2, none⟩) hb0).trans x0
      replace x1 := (HB.out.cell (p := ⟨b0, off0 + i * 2 + 1, none⟩) hb0).trans x1
      obtain ⟨last, hvt⟩ := VS_tail HV.out i
      have hvm := HV.out.mem (s := sp) (by
        have : sp ∈ l.drop i := by rw [hdr]; exact List.mem_cons_self ..
        exact List.mem_of_mem_drop this)
      rw [hdr] at hvt
      have hnn := total_nonneg hvt.2.2.2
      have htb := (total_bound HV.out).2
      have hst := HS.out
      rw [hdr, total_cons] at hst
      obtain ⟨x, y⟩ := sp
      simp only at x0 x1 hvm hst
      have hw1 : IntKind.i64.wrap (y - x) = y - x := i64_small (by omega) (by omega)
      have hw2 : IntKind.i64.wrap (s + (y - x)) = s + (y - x) := i64_small (by omega) (by omega)
      have hb1 : 0 ≤ s + (y - x) := by omega
      have hb2 : s + (y - x) ≤ 1099511627777 := by omega
      have HS2 := Aside0.mk (show s + (y - x) + total (l.drop (i + 1)) = total l by omega)
      have hg := blk_new wr (.cells #[.int .i64 x, .int .i64 y] 136)
      have q0 : (wr.alloc (.cells #[.int .i64 x, .int .i64 y] 136)).cell? ⟨wr.heap.size, 0, none⟩ = some (.int .i64 x) := by rw [cell_of_row _ _ 0 _ 136 (0, 0) hg]; rfl
      have q1 : (wr.alloc (.cells #[.int .i64 x, .int .i64 y] 136)).cell? ⟨wr.heap.size, 1, none⟩ = some (.int .i64 y) := by rw [cell_of_row _ _ 1 _ 136 (0, 0) hg]; rfl
      have HB2 := Aside0.mk (below_then HB.out HB.out.size (below_alloc (Below.refl _ _) (.cells #[.int .i64 x, .int .i64 y] 136)))
      clear hsp hdr hvt hvm hnn htb hst hx0 hb0 hg
      go_wp2
      go_roundw
      case rel => exact ⟨i + 1, s + (y - x), rfl, by go_num, by omega, hb1, hb2, HS2, HB2⟩
      case measure => simp [intOf]; omega
    · have HF := Aside0.mk (show s = total l by
        have := HS.out
        rw [List.drop_of_length_le (by have := HL.out; omega), total_nil] at this
        omega)
      go_wp2
      rw [HP.out]
      exact ⟨by rw [HF.out]; rfl, HB.out⟩
end Go.Proofs.YtchhdafgmifhdaaGreat.ExtA
namespace Go.Proofs.YtchhdafgmifhdaaGreat.ExtB
open Go.RowKit Go.Proofs.YtchhdafgmifhdaaGreat.B8 Go.Proofs.YtchhdafgmifhdaaGreat.Agg Go.Proofs.YtchhdafgmifhdaaGreat.CodL Go.Proofs.YtchhdafgmifhdaaGreat.CodA Go.Proofs.YtchhdafgmifhdaaGreat.CodB Go.Proofs.YtchhdafgmifhdaaGreat.CrcL Go.Proofs.YtchhdafgmifhdaaGreat.CrcA Go.Proofs.YtchhdafgmifhdaaGreat.CrcB Go.Proofs.YtchhdafgmifhdaaGreat.PVerifyForms Go.Proofs.YtchhdafgmifhdaaGreatW.PrintWords Go.Proofs.YtchhdafgmifhdaaGreatW.PrintLast Go.Proofs.YtchhdafgmifhdaaGreatW.PrintMore Go.Proofs.YtchhdafgmifhdaaGreat.ExtL Go.Proofs.YtchhdafgmifhdaaGreat.ExtA
set_option linter.unusedVariables false
set_option linter.unusedSimpArgs false
theorem VS_mono : ∀ {last : Int} {l : List Sp}, VS last l → ∀ i j, i ≤ j → j < l.length → (l.getD i (0, 0)).2 ≤ (l.getD j (0, 0)).2
  | last, [], _, i, j, _, hj => by simp at hj
  | last, s :: l, h, 0, 0, _, _ => Int.le_refl _
  | last, s :: l, h, 0, j + 1, _, hj => by
    have hm := h.2.2.2.mem (s := l.getD j (0, 0)) (by
      rw [List.getD_eq_getElem?_getD, List.getElem?_eq_getElem (by simpa using hj)]
      exact List.getElem_mem _)
    show s.2 ≤ (l.getD j (0, 0)).2
    omega
  | last, s :: l, h, i + 1, j + 1, hij, hj => VS_mono h.2.2.2 i j (by omega) (by simpa using hj)
theorem first_eq : ∀ (l : List Sp) (t : Int) (i : Nat), i ≤ l.length → (∀ k, k < i → (l.getD k (0, 0)).2 < t) → (i < l.length → ¬ (l.getD i (0, 0)).2 < t) → first l t = i
  | [], t, i, h0, _, _ => by
    have : i = 0 := by simpa using h0
    subst this
    rfl
  | s :: l, t, 0, h0, _, h2 => by
    have := h2 (by simp)
    unfold first
    rw [List.takeWhile_cons_of_neg (by simpa using this)]
    rfl
  | s :: l, t, i + 1, h0, h1, h2 => by
    have h3 := h1 0 (by omega)
    have ih := first_eq l t i (by simpa using h0) (fun k hk => h1 (k + 1) (by omega)) (fun hl => h2 (by simpa using hl))
    unfold first at ih ⊢
    rw [List.takeWhile_cons_of_pos (by simpa using h3), List.length_cons, ih]
theorem first_le (l : List Sp) (t : Int) : first l t ≤ l.length := (List.takeWhile_prefix _).length_le
theorem VS.get {last : Int} {l : List Sp} (h : VS last l) {i : Nat} (hi : i < l.length) : last < (l.getD i (0, 0)).1 ∧ (l.getD i (0, 0)).1 < (l.getD i (0, 0)).2 ∧ (l.getD i (0, 0)).2 ≤ 1099511627776 :=
  h.mem (by rw [List.getD_eq_getElem?_getD, List.getElem?_eq_getElem hi]; exact List.getElem_mem _)
set_option maxRecDepth 100000 in
theorem cmp_calls (x y t : Int) (h1 : -1099511627777 ≤ y ∧ y ≤ 1099511627777) (h2 : -1099511627777 ≤ t ∧ t ≤ 1099511627777) (w : World) :
    Calls Tryz.prog 143 #[.agg #[.int .i64 x, .int .i64 y], .int .i64 t] w fun e w' => e = .returned (.int .i64 (y - t)) ∧ Below w.heap.size w w' := by
  have HB := Aside0.mk (below_alloc (Below.refl w.heap.size w) (.cells #[.int .i64 x, .int .i64 y] 136))
  have q1 : (w.alloc (.cells #[.int .i64 x, .int .i64 y] 136)).cell? ⟨w.heap.size, 1, none⟩ = some (.int .i64 y) := by rw [cell_of_row _ _ 1 _ 136 (0, 0) (blk_new w _)]; rfl
  have hw : IntKind.i64.wrap (y - t) = y - t := i64_small (by omega) (by omega)
  obtain ⟨P, hP⟩ : ∃ P : Ending → World → Prop, P = (fun e w' => e = .returned (.int .i64 (y - t)) ∧ Below w.heap.size w w') := ⟨_, rfl⟩
  rw [← hP]
  have HP := Aside0.mk hP
  clear hP h1 h2
  go_enter Tryz.func143, Tryz.ntmps143
  go_wp2
  rw [HP.out]
  exact ⟨rfl, HB.out⟩
def TellsFound (w : World) (n : Int) (e : Ending) (w' : World) : Prop := ∃ b, e = .returned (.tuple #[.int .i64 n, .bool b]) ∧ Below w.heap.size w w'
set_option maxRecDepth 100000 in
set_option maxHeartbeats 4000000 in
theorem search_calls (A : Option Addr) (c n : Nat) (l : List Sp) (t : Int) (w : World) (hr : Kd.C kS w A n l) (hnc : n ≤ c) (hm : n ≤ 100000) (hv : VS (-1) l) (ht : -1099511627777 ≤ t ∧ t ≤ 1099511627777) :
    Calls Tryz.prog 142 #[.slice A n c, .int .i64 t, .func (.func 143) #[] #[]] w (TellsFound w (first l t : Int)) := by
  have HR := Aside0.mk hr
  have HL := Aside0.mk hr.1
  have HV := Aside0.mk hv
  have HT := Aside0.mk ht
  obtain ⟨P, hP⟩ : ∃ P : Ending → World → Prop, P = TellsFound w (first l t : Int) := ⟨_, rfl⟩
  rw [← hP]
  have HP := Aside0.mk hP
  clear hP hr hv ht
  go_enter Tryz.func142, Tryz.ntmps142
  go_wp2
  go_loopw [9, 10] (fun v9 v10 wr => ∃ (i j : Nat), v9 = .int .i64 (i : Int) ∧ v10 = .int .i64 (j : Int) ∧ i ≤ j ∧ j ≤ n ∧ Aside0 (∀ k, k < i → (l.getD k (0, 0)).2 < t) ∧ Aside0 (∀ k, j ≤ k → k < n → t ≤ (l.getD k (0, 0)).2) ∧ Aside0 (Below w.heap.size w wr)) (fun v u _ => (intOf u).toNat - (intOf v).toNat)
  case atStart => exact ⟨0, n, rfl, rfl, Nat.zero_le _, Nat.le_refl _, ⟨fun k h => absurd h (Nat.not_lt_zero _)⟩, ⟨fun k h1 h2 => by omega⟩, ⟨Below.refl _ _⟩⟩
  case round =>
    obtain ⟨i, j, rfl, rfl, hij, hjn, HLo, HHi, HB⟩ := hrel
    by_cases hlt : i < j
    · obtain ⟨h, hh⟩ : ∃ h, h = (i + j) / 2 := ⟨_, rfl⟩
      have hih : i ≤ h := by omega
      have hhj : h < j := by omega
      have hhi : ((i : Int) + (j : Int)) / 2 = (h : Int) := by omega
      obtain ⟨b0, off0, rfl, hb0, hx0⟩ := CS_at HR.out (by omega)
      obtain ⟨x0, x1⟩ := hx0 h (by omega)
      have hg := VS.get HV.out (i := h) (by have := HL.out; omega)
      obtain ⟨s, hs⟩ : ∃ s, s = l.getD h (0, 0) := ⟨_, rfl⟩
      rw [← hs] at x0 x1 hg
      replace x0 := (HB.out.cell (p := ⟨b0, off0 + h * 2, none⟩) hb0).trans x0
      replace x1 := (HB.out.cell (p := ⟨b0, off0 + h * 2 + 1, none⟩) hb0).trans x1
      have HLow := Aside0.mk (show s.2 < t → ∀ k, k < h + 1 → (l.getD k (0, 0)).2 < t from fun h1 k hk => by
        have := VS_mono HV.out k h (by omega) (by have := HL.out; omega)
        rw [← hs] at this
        omega)
      have HHig := Aside0.mk (show t ≤ s.2 → ∀ k, h ≤ k → k < n → t ≤ (l.getD k (0, 0)).2 from fun h1 k hk hkn => by
        have := VS_mono HV.out h k hk (by have := HL.out; omega)
        rw [← hs] at this
        omega)
      obtain ⟨x, y⟩ := s
      simp only at x0 x1 hg
      have HY := Aside0.mk (show -1099511627777 ≤ y ∧ y ≤ 1099511627777 by omega)
      clear hh hs hx0 hb0 hg
      go_wp2_with fail
      refine (cmp_calls x y t HY.out HT.out wr).mono ?_
      rintro e w2 ⟨rfl, hb2⟩
      have HB2 := Aside0.mk (below_then HB.out HB.out.size hb2)
      clear hb2 x0 x1
      by_cases hyt : y < t
      · have d1 : decide (y - t < 0) = true := decide_eq_true (by omega)
        have HL2 := Aside0.mk (HLow.out hyt)
        clear HLow HHig
        go_wp2
        go_roundw
        case rel => exact ⟨h + 1, j, by go_num, rfl, by omega, hjn, HL2, HHi, HB2⟩
        case measure => simp [intOf]; omega
      · have d1 : decide (y - t < 0) = false := decide_eq_false (by omega)
        have HH2 := Aside0.mk (HHig.out (by omega))
        clear HLow HHig
        go_wp2
        go_roundw
        case rel => exact ⟨i, h, rfl, rfl, by omega, by omega, HLo, HH2, HB2⟩
        case measure => simp [intOf]; omega
    · have hF : first l t = i := first_eq l t i (by have := HL.out; omega) HLo.out (fun hl => by have := HHi.out i (by omega) (by have := HL.out; omega); omega)
      have HF := Aside0.mk hF
      clear hF
      have d0 : decide ((i : Int) < (j : Int)) = false := decide_eq_false (by omega)
      by_cases hin : i < n
      · have d1 : decide ((i : Int) < (n : Int)) = true := decide_eq_true (by omega)
        obtain ⟨b0, off0, rfl, hb0, hx0⟩ := CS_at HR.out (by omega)
        obtain ⟨x0, x1⟩ := hx0 i hin
        have hg := VS.get HV.out (i := i) (by have := HL.out; omega)
        obtain ⟨s, hs⟩ : ∃ s, s = l.getD i (0, 0) := ⟨_, rfl⟩
        rw [← hs] at x0 x1 hg
        replace x0 := (HB.out.cell (p := ⟨b0, off0 + i * 2, none⟩) hb0).trans x0
        replace x1 := (HB.out.cell (p := ⟨b0, off0 + i * 2 + 1, none⟩) hb0).trans x1
        obtain ⟨x, y⟩ := s
        simp only at x0 x1 hg
        have HY := Aside0.mk (show -1099511627777 ≤ y ∧ y ≤ 1099511627777 by omega)
        clear hs hx0 hb0 hg
        go_wp2_with fail
        refine (cmp_calls x y t HY.out HT.out wr).mono ?_
        rintro e w2 ⟨rfl, hb2⟩
        have HB2 := Aside0.mk (below_then HB.out HB.out.size hb2)
        clear hb2 x0 x1
        go_wp2
        rw [HP.out, HF.out]
        exact ⟨_, rfl, HB2.out⟩
      · have d1 : decide ((i : Int) < (n : Int)) = false := decide_eq_false (by omega)
        go_wp2
        rw [HP.out, HF.out]
        exact ⟨_, rfl, HB.out⟩
set_option maxRecDepth 100000 in
theorem first_calls (A : Option Addr) (c n : Nat) (l : List Sp) (t : Int) (w : World) (hr : Kd.C kS w A n l) (hnc : n ≤ c) (hm : n ≤ 100000) (hv : VS (-1) l) (ht : -1099511627777 ≤ t ∧ t ≤ 1099511627777) :
    Calls Tryz.prog 105 #[.slice A n c, .int .i64 t] w fun e w' => e = .returned (.int .i64 (first l t : Int)) ∧ Below w.heap.size w w' := by
  have HS := Aside0.mk (search_calls A c n l t w hr hnc hm hv ht)
  obtain ⟨f, hf⟩ : ∃ f : Int, f = (first l t : Int) := ⟨_, rfl⟩
  rw [← hf] at HS ⊢
  obtain ⟨P, hP⟩ : ∃ P : Ending → World → Prop, P = (fun e w' => e = .returned (.int .i64 f) ∧ Below w.heap.size w w') := ⟨_, rfl⟩
  rw [← hP]
  have HP := Aside0.mk hP
  clear hP hr hv ht hf
  go_enter Tryz.func105, Tryz.ntmps105
  go_wp2_with fail
  refine HS.out.mono ?_
  rintro e w2 ⟨b, rfl, hb⟩
  have HB := Aside0.mk hb
  clear hb
  go_wp2
  rw [HP.out]
  exact ⟨rfl, HB.out⟩
end Go.Proofs.YtchhdafgmifhdaaGreat.ExtB
namespace Go.Proofs.YtchhdafgmifhdaaGreat.ExtC
open Go.RowKit Go.Proofs.YtchhdafgmifhdaaGreat.B8 Go.Proofs.YtchhdafgmifhdaaGreat.Agg Go.Proofs.YtchhdafgmifhdaaGreat.CodL Go.Proofs.YtchhdafgmifhdaaGreat.CodA Go.Proofs.YtchhdafgmifhdaaGreat.CodB Go.Proofs.YtchhdafgmifhdaaGreat.CrcL Go.Proofs.YtchhdafgmifhdaaGreat.CrcA Go.Proofs.YtchhdafgmifhdaaGreat.CrcB Go.Proofs.YtchhdafgmifhdaaGreat.PVerifyForms Go.Proofs.YtchhdafgmifhdaaGreatW.PrintWords Go.Proofs.YtchhdafgmifhdaaGreatW.PrintLast Go.Proofs.YtchhdafgmifhdaaGreatW.PrintMore Go.Proofs.YtchhdafgmifhdaaGreat.ExtL Go.Proofs.YtchhdafgmifhdaaGreat.ExtA Go.Proofs.YtchhdafgmifhdaaGreat.ExtB
set_option linter.unusedVariables false
set_option linter.unusedSimpArgs false
theorem info42 : (Tryz.prog.info? 136).map (fun i => (i.zero, i.size, i.bytes)) = some (some (.agg #[.int .i64 0, .int .i64 0]), 2, 16) := by kernel_rfl
theorem cut54_to (A : Option Addr) (n c j : Nat) (hm : j ≤ n) (hc : n ≤ c) (W : World) : (Instr.slice 74 (.slice A n c) none (some (.int .i64 (j : Int))) none).run Tryz.prog W = .ok (.slice A j c) W := by
  obtain ⟨i0, hi, _, _, _⟩ := info_parts info42
  have := cut_to (P := Tryz.prog) 74 136 .i64 Tryz.underlying74 hi A n c (j : Int) (by omega) (by omega) hc W
  simpa using this
theorem cut54_from (A : Option Addr) (n c j : Nat) (hm : j ≤ n) (W : World) : (Instr.slice 74 (.slice A n c) (some (.int .i64 (j : Int))) none none).run Tryz.prog W = .ok (.slice (if c = j then A else A.map (·.add (j * 2))) (n - j) (c - j)) W := by
  obtain ⟨i0, hi, _, hs, _⟩ := info_parts info42
  have := cut_from (P := Tryz.prog) 74 136 .i64 Tryz.underlying74 hi 2 hs A n c (j : Int) (by omega) (by omega) W
  simpa using this
/-- A row of spans is told. -/
def TellsS (w : World) (l : List Sp) (e : Ending) (w' : World) : Prop := ∃ v, e = .returned v ∧ Kd.R kS 136 w' w.heap.size (fun _ => True) v l ∧ Below w.heap.size w w'
theorem R_mtS (w : World) (base : Nat) (hb : base ≤ w.heap.size) : Kd.R kS 136 (w.alloc (.cells #[] 136)) base (fun _ => True) (.slice (some ⟨w.heap.size, 0, none⟩) 0 0) [] :=
  ⟨fun _ _ => trivial, [], ⟨rfl, .inr ⟨w.heap.size, 0, #[], rfl, hb, heap_new _ _, Nat.le_refl _, by decide, rfl, rfl⟩⟩, Reps.none _ _⟩
section
variable {ops : Array Oper} {o : Oper} {rest : List Oper} {a : Act} {Q : Exit → Act → World → Prop} {K : Act → World → Prop}
/-- append(v, ys...) -/
theorem append_rowsS {w0 W : World} {base : Nat} (hgd : o.guard = none) (s x : Operand) (ho : o.op = .call { callee := .builtin .append, args := #[s, x], argTypes := #[74, 74] })
    (v : Value) (xs ys : List Sp) (A : Option Addr) (m c : Nat) (hs : a.eval s = v) (hx : a.eval x = .slice A m c)
    (HO : Kd.R kS 136 W base (fun _ => True) v xs) (HR : Kd.C kS W A m ys) (HB : Below base w0 W) (hbase : base ≤ W.heap.size) (hl : xs.length + m ≤ 1000000)
    (h : ∀ A1 n1 c1 w1, n1 = (xs ++ ys).length → Kd.R kS 136 w1 base (fun _ => True) (.slice A1 n1 c1) (xs ++ ys) → Below base w0 w1 → wpList Tryz.prog ops Q rest (a.put o.dst (.slice A1 n1 c1)) w1) : wpList Tryz.prog ops Q (o :: rest) a W :=
  Kd.R_append_rows (P := Tryz.prog) kS (w0 := w0) base hgd s x 74 136 (.agg #[.int .i64 0, .int .i64 0]) 16 ho Tryz.underlying74 info42 rfl (by decide) (by decide) v xs ys A m c (fun _ => True) (fun _ => False) hs hx HO HR (fun _ _ h => h) (fun _ h => h.elim) (fun _ _ => trivial) HB hbase (by omega)
    (fun v1 w1 h1 h2 h3 _ => by
      obtain ⟨A1, c1, e1⟩ := Kd.R_slice h1
      subst e1
      exact h A1 _ c1 w1 rfl h1 h2)
theorem wp_rowsS {w0 W : World} {base : Nat} (s x : Operand) (ho : o.op = .call { callee := .builtin .append, args := #[s, x], argTypes := #[74, 74] })
    (v : Value) (xs ys : List Sp) (A : Option Addr) (m c : Nat) (hs : a.eval s = v) (hx : a.eval x = .slice A m c)
    (HO : Kd.R kS 136 W base (fun _ => True) v xs) (HR : Kd.C kS W A m ys) (HB : Below base w0 W) (hbase : base ≤ W.heap.size) (hl : xs.length + m ≤ 1000000)
    (h : ∀ A1 n1 c1 w1, n1 = (xs ++ ys).length → Kd.R kS 136 w1 base (fun _ => True) (.slice A1 n1 c1) (xs ++ ys) → Below base w0 w1 → K (a.put o.dst (.slice A1 n1 c1)) w1) : o.wp Tryz.prog a W K Q := by
  have hop : ({ o with guard := none } : Oper).op = .call { callee := .builtin .append, args := #[s, x], argTypes := #[74, 74] } := ho
  have := Kd.R_append_rows_step (P := Tryz.prog) (ops := #[]) (o := { o with guard := none }) (a := a) (Q := Q) (Kc := K) kS (w0 := w0) base rfl s x 74 136 (.agg #[.int .i64 0, .int .i64 0]) 16 hop Tryz.underlying74 info42 rfl (by decide) (by decide) v xs ys A m c (fun _ => True) (fun _ => False) hs hx HO HR (fun _ _ h => h) (fun _ h => h.elim) (fun _ _ => trivial) HB hbase (by omega)
    (fun v1 w1 h1 h2 h3 _ => by
      obtain ⟨A1, c1, e1⟩ := Kd.R_slice h1
      subst e1
      exact h A1 _ c1 w1 rfl h1 h2)
  have hw : Region.wanted { o with guard := none } (yielded #[] a.tmps) = true := rfl
  rw [if_pos hw] at this
  exact this
end
set_option maxRecDepth 100000 in
set_option maxHeartbeats 2000000 in
theorem replace_calls (A : Option Addr) (c n : Nat) (l : List Sp) (fr tu : Nat) (B : Option Addr) (d m : Nat) (ins : List Sp) (w : World) (hr : Kd.C kS w A n l) (hnc : n ≤ c) (hm : n ≤ 100000) (hr2 : Kd.C kS w B m ins) (hm2 : m ≤ 100000) (hf : fr ≤ n) (ht : tu ≤ n) :
    Calls Tryz.prog 107 #[.slice A n c, .int .i64 (fr : Int), .int .i64 (tu : Int), .slice B m d] w (TellsS w (l.take fr ++ ins ++ l.drop tu)) := by
  have HR := Aside0.mk (And.intro hr hr.1)
  have HR2 := Aside0.mk (And.intro hr2 hr2.1)
  obtain ⟨P, hP⟩ : ∃ P : Ending → World → Prop, P = TellsS w (l.take fr ++ ins ++ l.drop tu) := ⟨_, rfl⟩
  rw [← hP]
  have HP := Aside0.mk hP
  have hcut := fun W => cut54_to A n c fr hf hnc W
  obtain ⟨A4, hA4⟩ : ∃ A4, A4 = if c = tu then A else A.map (·.add (tu * 2)) := ⟨_, rfl⟩
  obtain ⟨n4, hn4⟩ : ∃ n4, n4 = n - tu := ⟨_, rfl⟩
  obtain ⟨c4, hc4⟩ : ∃ c4, c4 = c - tu := ⟨_, rfl⟩
  have hcut2 : ∀ W, (Instr.slice 74 (.slice A n c) (some (.int .i64 (tu : Int))) none none).run Tryz.prog W = .ok (.slice A4 n4 c4) W := fun W => by
    rw [cut54_from A n c tu ht W, ← hA4, ← hn4, ← hc4]
  have HC4 := Aside0.mk (show Kd.C kS w A4 n4 (l.drop tu) by
    have := C_drop hr hnc ht
    rw [show kS.sz = 2 from rfl, ← hA4, ← hn4] at this
    exact this)
  have HC3 := Aside0.mk (C_take hr hf)
  have hn4b : n4 ≤ 100000 := by omega
  have hfl : (l.take fr).length ≤ 100000 := by rw [List.length_take]; omega
  have HFL := Aside0.mk hfl
  have HO := Aside0.mk (R_mtS w w.heap.size (Nat.le_refl _))
  have HB := Aside0.mk (below_alloc (Below.refl w.heap.size w) (.cells #[] 136))
  clear hP hr hr2 hA4 hn4 hc4 hfl
  go_enter Tryz.func107, Tryz.ntmps107
  go_wp2_with (at_builtin; refine append_rowsS (base := w.heap.size) (w0 := w) rfl (.tmp 10) (.tmp 13) rfl (.slice (some ⟨w.heap.size, 0, none⟩) 0 0) [] (l.take fr) A fr c rfl rfl HO.out (Kd.C_below HC3.out HB.out) HB.out (by simp) (by simp only [List.length_nil]; omega) ?_; intro A5 n5 c5 w5 hn5 h5 hb5; rw [List.nil_append] at hn5 h5; have HN5 := Aside0.mk hn5; have H5 := Aside0.mk h5; have HB5 := Aside0.mk hb5; clear hn5 h5 hb5)
  refine wp_region_held_drew (S := fun _ => True) (by kernel_rfl) trivial (fun _ => ?_)
  have H6 := Aside0.mk (Kd.R_below H5.out (below_drew (Below.refl _ _)))
  have HB6 := Aside0.mk (below_then HB5.out HB5.out.size (below_drew (Below.refl _ _)))
  generalize w5.drew = w6 at *
  refine wpAnyH_take (i := 0) (oi := ⟨some 15, _, _, _, _, _⟩) (v := .slice A5 n5 c5) rfl (by kernel_rfl) (by kernel_rfl) (by kernel_rfl) (fun _ _ _ h => h) (.inl ⟨by rfl, fun W1 h1 => by go_simp⟩) trivial ?_
  try simp only [Act.put, List.setIfInBounds_toArray, List.set_cons_zero, List.set_cons_succ]
  refine wpAnyH_take (i := 1) (oi := ⟨some 16, _, _, _, _, _⟩) (v := .slice B m d) rfl (by kernel_rfl) (by kernel_rfl) (by kernel_rfl) (fun _ _ _ h => h) (.inl ⟨by rfl, fun W1 h1 => by go_simp⟩) trivial ?_
  try simp only [Act.put, List.setIfInBounds_toArray, List.set_cons_zero, List.set_cons_succ]
  refine wpAnyH_take (i := 3) (oi := ⟨some 18, _, _, _, _, _⟩) (v := .slice A n c) rfl (by kernel_rfl) (by kernel_rfl) (by kernel_rfl) (fun _ _ _ h => h) (.inl ⟨by rfl, fun W1 h1 => by go_simp⟩) trivial ?_
  try simp only [Act.put, List.setIfInBounds_toArray, List.set_cons_zero, List.set_cons_succ]
  refine wpAnyH_take (i := 4) (oi := ⟨some 19, _, _, _, _, _⟩) (v := .int .i64 (tu : Int)) rfl (by kernel_rfl) (by kernel_rfl) (by kernel_rfl) (fun _ _ _ h => h) (.inl ⟨by rfl, fun W1 h1 => by go_simp⟩) trivial ?_
  try simp only [Act.put, List.setIfInBounds_toArray, List.set_cons_zero, List.set_cons_succ]
  refine wpAnyH_take (i := 5) (oi := ⟨some 20, _, _, _, _, _⟩) (v := .slice A4 n4 c4) rfl (by kernel_rfl) (by kernel_rfl) (by kernel_rfl) (fun _ _ _ h => h) (.inl ⟨by rfl, fun W1 h1 => by go_simp⟩) trivial ?_
  try simp only [Act.put, List.setIfInBounds_toArray, List.set_cons_zero, List.set_cons_succ]
  refine wpAnyH_ready (rs := [2]) (by kernel_rfl) (by simp) (AllReadyH.cons rfl (fun K1 hK1 => ?_) AllReadyH.nil)
  refine wp_rowsS (o := ⟨some 17, _, _, _, _, _⟩) (.tmp 15) (.tmp 16) rfl _ (l.take fr) ins B m d rfl rfl H6.out (Kd.C_below HR2.out.1 HB6.out) HB6.out HB6.out.size (by have := HFL.out; omega) ?_
  intro A7 n7 c7 w7 hn7 h7 hb7
  have HN7 := Aside0.mk hn7
  have H7 := Aside0.mk h7
  have HB7 := Aside0.mk hb7
  clear hn7 h7 hb7
  refine hK1.out _ _ trivial (fun _ => ?_)
  try simp only [Act.put, List.setIfInBounds_toArray, List.set_cons_zero, List.set_cons_succ]
  refine wpAnyH_ready (rs := [6]) (by kernel_rfl) (by simp) (AllReadyH.cons rfl (fun K2 hK2 => ?_) AllReadyH.nil)
  refine wp_rowsS (o := ⟨some 21, _, _, _, _, _⟩) (.tmp 17) (.tmp 20) rfl _ (l.take fr ++ ins) (l.drop tu) A4 n4 c4 rfl rfl H7.out (Kd.C_below HC4.out HB7.out) HB7.out HB7.out.size (by rw [List.length_append]; have := HFL.out; have := HR2.out.2; omega) ?_
  intro A8 n8 c8 w8 hn8 h8 hb8
  have H8 := Aside0.mk h8
  have HB8 := Aside0.mk hb8
  clear hn8 h8 hb8
  refine hK2.out _ _ trivial (fun _ => ?_)
  try simp only [Act.put, List.setIfInBounds_toArray, List.set_cons_zero, List.set_cons_succ]
  refine wpAnyH_take (i := 7) (oi := ⟨some 8, _, _, _, _, _⟩) (v := .slice A8 n8 c8) rfl (by kernel_rfl) (by kernel_rfl) (by kernel_rfl) (fun _ _ _ h => h) (.inl ⟨by rfl, fun W1 h1 => by go_simp⟩) trivial ?_
  try simp only [Act.put, List.setIfInBounds_toArray, List.set_cons_zero, List.set_cons_succ]
  refine wpAnyH_done (by kernel_rfl) ?_ _
  clear hK1 hK2 K1 K2
  go_wp2
  rw [HP.out]
  exact ⟨_, rfl, H8.out, HB8.out⟩
end Go.Proofs.YtchhdafgmifhdaaGreat.ExtC
namespace Go.Proofs.YtchhdafgmifhdaaGreat.ExtD
open Go.RowKit Go.Proofs.YtchhdafgmifhdaaGreat.B8 Go.Proofs.YtchhdafgmifhdaaGreat.Agg Go.Proofs.YtchhdafgmifhdaaGreat.CodL Go.Proofs.YtchhdafgmifhdaaGreat.CodA Go.Proofs.YtchhdafgmifhdaaGreat.CodB Go.Proofs.YtchhdafgmifhdaaGreat.CrcL Go.Proofs.YtchhdafgmifhdaaGreat.CrcA Go.Proofs.YtchhdafgmifhdaaGreat.CrcB Go.Proofs.YtchhdafgmifhdaaGreat.PVerifyForms Go.Proofs.YtchhdafgmifhdaaGreatW.PrintWords Go.Proofs.YtchhdafgmifhdaaGreatW.PrintLast Go.Proofs.YtchhdafgmifhdaaGreatW.PrintMore Go.Proofs.YtchhdafgmifhdaaGreat.ExtL Go.Proofs.YtchhdafgmifhdaaGreat.ExtA Go.Proofs.YtchhdafgmifhdaaGreat.ExtB Go.Proofs.YtchhdafgmifhdaaGreat.ExtC
set_option linter.unusedVariables false
set_option linter.unusedSimpArgs false
attribute [local go_sem] max2_int min2_int max_two min_two
theorem first_lt : ∀ (l : List Sp) (t : Int) (k : Nat), k < first l t → (l.getD k (0, 0)).2 < t
  | [], t, k, h => by simp [first] at h
  | s :: l, t, k, h => by
    unfold first at h
    by_cases hs : s.2 < t
    · rw [List.takeWhile_cons_of_pos (by simpa using hs), List.length_cons] at h
      cases k with
      | zero => exact hs
      | succ k => exact first_lt l t k (by unfold first; omega)
    · rw [List.takeWhile_cons_of_neg (by simpa using hs)] at h
      simp at h
theorem first_ge {last : Int} {l : List Sp} (hv : VS last l) (t : Int) : ∀ k, first l t ≤ k → k < l.length → t ≤ (l.getD k (0, 0)).2 := by
  intro k hk hkl
  have h0 : first l t < l.length := by omega
  have h1 : t ≤ (l.getD (first l t) (0, 0)).2 := by
    induction l generalizing last k with
    | nil => simp at h0
    | cons s l ih =>
      unfold first at h0 ⊢
      by_cases hs : s.2 < t
      · rw [List.takeWhile_cons_of_pos (by simpa using hs), List.length_cons] at h0 ⊢
        have := ih hv.2.2.2 (first l t) (Nat.le_refl _) (by unfold first; simpa using h0) (by unfold first; simpa using h0)
        exact this
      · rw [List.takeWhile_cons_of_neg (by simpa using hs)]
        show t ≤ s.2
        omega
  have h2 := VS_mono hv (first l t) k hk hkl
  omega
theorem addS_skip : ∀ (l : List Sp) (s : Sp) (a : Nat), (∀ k, k < a → (l.getD k (0, 0)).2 < s.1) → a ≤ l.length → addS l s = l.take a ++ addS (l.drop a) s
  | l, s, 0, _, _ => by simp
  | [], s, a + 1, _, h => by simp at h
  | x :: l, s, a + 1, h, hl => by
    have h0 : x.2 < s.1 := h 0 (by omega)
    rw [addS, if_pos h0, addS_skip l s a (fun k hk => h (k + 1) (by omega)) (by simpa using hl)]
    rfl
theorem drop_get (l : List Sp) (b : Nat) (h : b < l.length) : l.drop b = l.getD b (0, 0) :: l.drop (b + 1) := by
  rw [List.getD_eq_getElem?_getD, List.getElem?_eq_getElem h]
  exact List.drop_eq_getElem_cons h
/-- One is taken in. -/
theorem addS_in1 (l : List Sp) (s : Sp) (b : Nat) (h : b < l.length) (h1 : s.1 ≤ (l.getD b (0, 0)).2) (h2 : (l.getD b (0, 0)).1 ≤ s.2) :
    addS (l.drop b) s = addS (l.drop (b + 1)) (min s.1 (l.getD b (0, 0)).1, max s.2 (l.getD b (0, 0)).2) := by
  rw [drop_get l b h, addS, if_neg (by omega), if_neg (by omega)]
theorem addS_out {last : Int} {l : List Sp} (hv : VS last l) (s : Sp) (hs : s.1 < s.2) (b : Nat) (h : b < l.length → s.2 < (l.getD b (0, 0)).1) : addS (l.drop b) s = s :: l.drop b := by
  by_cases hb : b < l.length
  · have := h hb
    have hg := VS.get hv hb
    rw [drop_get l b hb, addS, if_neg (by omega), if_pos this]
  · rw [List.drop_of_length_le (by omega)]
    rfl
theorem C_oneS (W : World) (u v : Int) : Kd.C kS (W.alloc (.cells #[.int .i64 u, .int .i64 v] 136)) (some ⟨W.heap.size, 0, none⟩) 1 [(u, v)] :=
  ⟨rfl, by omega, fun _ => ⟨_, rfl, fun j p hj => by
    match j with
    | 0 =>
      obtain rfl : (u, v) = p := by simpa using hj
      refine ⟨[.int .i64 u, .int .i64 v], rfl, rfl, fun i q hq => ?_⟩
      rw [show (⟨W.heap.size, 0, none⟩ : Addr).add (0 * kS.sz + i) = ⟨W.heap.size, i, none⟩ from by rw [add_at]; simp, cell_of_row _ _ _ _ 136 (0, 0) (heap_new _ _), ← Array.getElem?_toList]
      exact hq
    | j + 1 => simp at hj⟩⟩
theorem set2 {W : World} {g : Nat} {p q : Value} (h : W.heap[g]? = some (.cells #[p, q] 136 (0, 0))) (a b : Value) : ((W.setCell ⟨g, 0, none⟩ a).setCell ⟨g, 1, none⟩ b).heap[g]? = some (.cells #[a, b] 136 (0, 0)) := by
  rw [heap_setCell_same _ _ _ _ _ _ (heap_setCell_same _ _ _ _ _ _ h)]
  rfl
set_option maxRecDepth 100000 in
set_option maxHeartbeats 4000000 in
theorem add_calls (A : Option Addr) (c n : Nat) (l : List Sp) (x y : Int) (w : World) (hr : Kd.C kS w A n l) (hnc : n ≤ c) (hm : n ≤ 100000) (hv : VS (-1) l) (hok : okS (x, y)) :
    Calls Tryz.prog 61 #[.slice A n c, .agg #[.int .i64 x, .int .i64 y]] w (TellsS w (addS l (x, y))) := by
  have HR := Aside0.mk hr
  have HL := Aside0.mk hr.1
  have HV := Aside0.mk hv
  have HOK := Aside0.mk hok
  obtain ⟨P, hP⟩ : ∃ P : Ending → World → Prop, P = TellsS w (addS l (x, y)) := ⟨_, rfl⟩
  rw [← hP]
  have HP := Aside0.mk hP
  have HB := Aside0.mk (below_alloc (Below.refl w.heap.size w) (.cells #[.int .i64 x, .int .i64 y] 136))
  have HG := Aside0.mk (blk_new w (.cells #[.int .i64 x, .int .i64 y] 136))
  clear hP hr hv hok
  go_enter Tryz.func61, Tryz.ntmps61
  go_wp2_with fail
  generalize hW1 : w.alloc (.cells #[.int .i64 x, .int .i64 y] 136) = W1 at *
  clear hW1
  refine (valid_calls A c n l W1 (Kd.C_below HR.out HB.out) hnc hm).mono ?_
  rintro e W2 ⟨he, hb2⟩
  rw [decide_eq_true HV.out] at he
  subst he
  have HB2 := Aside0.mk (below_then HB.out HB.out.size hb2)
  have hg2 := blk_below HG.out hb2
  have HG2 := Aside0.mk hg2
  have q0 : W2.cell? ⟨w.heap.size, 0, none⟩ = some (.int .i64 x) := by rw [cell_of_row _ _ 0 _ 136 (0, 0) hg2]; rfl
  have q1 : W2.cell? ⟨w.heap.size, 1, none⟩ = some (.int .i64 y) := by rw [cell_of_row _ _ 1 _ 136 (0, 0) hg2]; rfl
  clear hb2 hg2
  go_wp2_with fail
  refine (right_calls (x, y) W2).mono ?_
  rintro e W3 ⟨he, hb3⟩
  rw [decide_eq_true HOK.out] at he
  subst he
  have HB3 := Aside0.mk (below_then HB2.out HB2.out.size hb3)
  have hg3 := blk_below HG2.out hb3
  have HG3 := Aside0.mk hg3
  have r0 : W3.cell? ⟨w.heap.size, 0, none⟩ = some (.int .i64 x) := by rw [cell_of_row _ _ 0 _ 136 (0, 0) hg3]; rfl
  clear q0 q1 hb3 hg3 HB HG HB2 HG2
  go_wp2_with fail
  refine (first_calls A c n l x W3 (Kd.C_below HR.out HB3.out) hnc hm HV.out (by have := HOK.out.1; have := HOK.out.2; simp only at *; omega)).mono ?_
  rintro e W4 ⟨he, hb4⟩
  obtain ⟨a, ha⟩ : ∃ a, a = first l x := ⟨_, rfl⟩
  rw [← ha] at he
  subst he
  have hal : a ≤ n := by rw [ha]; have := first_le l x; have := HL.out; omega
  have HA := Aside0.mk (show addS l (x, y) = l.take a ++ addS (l.drop a) (x, y) from addS_skip l (x, y) a (fun k hk => first_lt l x k (by omega)) (by have := HL.out; omega))
  have HGE := Aside0.mk (show ∀ k, a ≤ k → k < n → x ≤ (l.getD k (0, 0)).2 from fun k hk hkn => first_ge HV.out x k (by omega) (by have := HL.out; omega))
  have HB4 := Aside0.mk (below_then HB3.out HB3.out.size hb4)
  have HG4 := Aside0.mk (blk_below HG3.out hb4)
  clear ha r0 hb4 HB3 HG3
  go_wp2
  go_loopw [6] (fun v6 wr => ∃ (b : Nat) (u v : Int), v6 = .int .i64 (b : Int) ∧ a ≤ b ∧ b ≤ n ∧ u < v ∧ -1 ≤ u ∧ v ≤ 1099511627776 ∧ Aside0 (addS (l.drop a) (x, y) = addS (l.drop b) (u, v)) ∧ Aside0 (∀ k, b ≤ k → k < n → u ≤ (l.getD k (0, 0)).2) ∧ Aside0 (wr.heap[w.heap.size]? = some (.cells #[.int .i64 u, .int .i64 v] 136 (0, 0))) ∧ Aside0 (Below w.heap.size w wr)) (fun v _ => n - (intOf v).toNat)
  case atStart => exact ⟨a, x, y, rfl, Nat.le_refl _, hal, HOK.out.2.1, by have := HOK.out.1; simp only at this; omega, HOK.out.2.2, ⟨rfl⟩, HGE, HG4, HB4⟩
  case round =>
    clear HGE HG4 HB4
    obtain ⟨b, u, v, rfl, hab, hbn, huv, hu1, hv1, HE, HGE, HG, HB⟩ := hrel
    have q0 : wr.drew.cell? ⟨w.heap.size, 0, none⟩ = some (.int .i64 u) := by rw [cell_of_row _ _ 0 _ 136 (0, 0) (blk_below HG.out (below_drew (Below.refl _ _)))]; rfl
    have q1 : wr.drew.cell? ⟨w.heap.size, 1, none⟩ = some (.int .i64 v) := by rw [cell_of_row _ _ 1 _ 136 (0, 0) (blk_below HG.out (below_drew (Below.refl _ _)))]; rfl
    have HGD := Aside0.mk (blk_below HG.out (below_drew (Below.refl wr.heap.size wr)))
    have HBD := Aside0.mk (below_then HB.out HB.out.size (below_drew (Below.refl wr.heap.size wr)))
    by_cases hlt : b < n
    · obtain ⟨b0, off0, rfl, hb0, hx0⟩ := CS_at HR.out (by omega)
      obtain ⟨x0, x1⟩ := hx0 b hlt
      have hge := HGE.out b (Nat.le_refl _) hlt
      have hgt := VS.get HV.out (i := b) (by have := HL.out; omega)
      have HIN := Aside0.mk (fun h2 => addS_in1 l (u, v) b (by have := HL.out; omega) hge h2)
      have HOUT := Aside0.mk (fun (h2 : v < (l.getD b (0, 0)).1) => addS_out HV.out (u, v) huv b (fun _ => h2))
      have HGE2 := Aside0.mk (show ∀ k, b + 1 ≤ k → k < n → min u (l.getD b (0, 0)).1 ≤ (l.getD k (0, 0)).2 from fun k hk hkn => by have := HGE.out k (by omega) hkn; omega)
      obtain ⟨s, hs⟩ : ∃ s, s = l.getD b (0, 0) := ⟨_, rfl⟩
      rw [← hs] at x0 x1 hge hgt HIN HOUT HGE2
      replace x0 := (below_then HB.out HB.out.size (below_drew (Below.refl wr.heap.size wr))).cell (p := ⟨b0, off0 + b * 2, none⟩) hb0 |>.trans x0
      replace x1 := (below_then HB.out HB.out.size (below_drew (Below.refl wr.heap.size wr))).cell (p := ⟨b0, off0 + b * 2 + 1, none⟩) hb0 |>.trans x1
      have HX := Aside0.mk (And.intro (hx0 b hlt) hb0)
      rw [← hs] at HX
      obtain ⟨s1, s2⟩ := s
      simp only at x0 x1 hge hgt HIN HOUT HGE2 HX
      clear hs hx0
      by_cases hin : s1 ≤ v
      · have dl : decide ((b : Int) < (n : Int)) = true := decide_eq_true (by omega)
        have d1 : decide (s1 ≤ v) = true := decide_eq_true hin
        go_wp2
        refine wp_region_held_drew (S := fun w' => w' = wr.drew) (by kernel_rfl) rfl (fun hW => ?_)
        generalize hWd : wr.drew = Wd at *
        clear hWd
        refine wpAnyH_take (i := 0) (oi := ⟨some 22, _, _, _, _, _⟩) (v := .int .i64 (b : Int)) rfl (by kernel_rfl) (by kernel_rfl) (by kernel_rfl) (fun _ _ _ h => h) (.inl ⟨by rfl, fun W1 h1 => by subst h1; go_simp⟩) hW ?_
        try simp only [Act.put, List.setIfInBounds_toArray, List.set_cons_zero, List.set_cons_succ]
        refine wpAnyH_take (i := 1) (oi := ⟨some 23, _, _, _, _, _⟩) (v := .slice (some ⟨b0, off0, none⟩) n c) rfl (by kernel_rfl) (by kernel_rfl) (by kernel_rfl) (fun _ _ _ h => h) (.inl ⟨by rfl, fun W1 h1 => by subst h1; go_simp⟩) hW ?_
        try simp only [Act.put, List.setIfInBounds_toArray, List.set_cons_zero, List.set_cons_succ]
        refine wpAnyH_take (i := 2) (oi := ⟨some 24, _, _, _, _, _⟩) (v := .int .i64 (n : Int)) rfl (by kernel_rfl) (by kernel_rfl) (by kernel_rfl) (fun _ _ _ h => h) (.inl ⟨by rfl, fun W1 h1 => by subst h1; go_simp⟩) hW ?_
        try simp only [Act.put, List.setIfInBounds_toArray, List.set_cons_zero, List.set_cons_succ]
        refine wpAnyH_take (i := 3) (oi := ⟨some 25, _, _, _, _, _⟩) (v := .bool true) rfl (by kernel_rfl) (by kernel_rfl) (by kernel_rfl) (fun _ _ _ h => h) (.inl ⟨by rfl, fun W1 h1 => by subst h1; go_simp⟩) hW ?_
        try simp only [Act.put, List.setIfInBounds_toArray, List.set_cons_zero, List.set_cons_succ]
        refine wpAnyH_take (i := 4) (oi := ⟨some 26, _, _, _, _, _⟩) (v := .bool true) rfl (by kernel_rfl) (by kernel_rfl) (by kernel_rfl) (fun _ _ _ h => h) (.inl ⟨by rfl, fun W1 h1 => by subst h1; go_simp⟩) hW ?_
        try simp only [Act.put, List.setIfInBounds_toArray, List.set_cons_zero, List.set_cons_succ]
        refine wpAnyH_take (i := 5) (oi := ⟨some 27, _, _, _, _, _⟩) (v := .slice (some ⟨b0, off0, none⟩) n c) rfl (by kernel_rfl) (by kernel_rfl) (by kernel_rfl) (fun _ _ _ h => h) (.inl ⟨by rfl, fun W1 h1 => by subst h1; go_simp⟩) hW ?_
        try simp only [Act.put, List.setIfInBounds_toArray, List.set_cons_zero, List.set_cons_succ]
        refine wpAnyH_take (i := 6) (oi := ⟨some 28, _, _, _, _, _⟩) (v := .int .i64 (b : Int)) rfl (by kernel_rfl) (by kernel_rfl) (by kernel_rfl) (fun _ _ _ h => h) (.inl ⟨by rfl, fun W1 h1 => by subst h1; go_simp⟩) hW ?_
        try simp only [Act.put, List.setIfInBounds_toArray, List.set_cons_zero, List.set_cons_succ]
        refine wpAnyH_take (i := 7) (oi := ⟨some 29, _, _, _, _, _⟩) (v := .pointer (some ⟨b0, off0 + b * 2, none⟩)) rfl (by kernel_rfl) (by kernel_rfl) (by kernel_rfl) (fun _ _ _ h => h) (.inl ⟨by rfl, fun W1 h1 => by subst h1; go_simp⟩) hW ?_
        try simp only [Act.put, List.setIfInBounds_toArray, List.set_cons_zero, List.set_cons_succ]
        refine wpAnyH_take (i := 8) (oi := ⟨some 30, _, _, _, _, _⟩) (v := .pointer (some ⟨b0, off0 + b * 2, none⟩)) rfl (by kernel_rfl) (by kernel_rfl) (by kernel_rfl) (fun _ _ _ h => h) (.inl ⟨by rfl, fun W1 h1 => by subst h1; go_simp⟩) hW ?_
        try simp only [Act.put, List.setIfInBounds_toArray, List.set_cons_zero, List.set_cons_succ]
        refine wpAnyH_take (i := 9) (oi := ⟨some 31, _, _, _, _, _⟩) (v := .int .i64 s1) rfl (by kernel_rfl) (by kernel_rfl) (by kernel_rfl) (fun _ _ _ h => h) (.inl ⟨by rfl, fun W1 h1 => by subst h1; go_simp⟩) hW ?_
        try simp only [Act.put, List.setIfInBounds_toArray, List.set_cons_zero, List.set_cons_succ]
        refine wpAnyH_take (i := 10) (oi := ⟨some 32, _, _, _, _, _⟩) (v := .pointer (some ⟨w.heap.size, 1, none⟩)) rfl (by kernel_rfl) (by kernel_rfl) (by kernel_rfl) (fun _ _ _ h => h) (.inl ⟨by rfl, fun W1 h1 => by subst h1; go_simp⟩) hW ?_
        try simp only [Act.put, List.setIfInBounds_toArray, List.set_cons_zero, List.set_cons_succ]
        refine wpAnyH_take (i := 11) (oi := ⟨some 33, _, _, _, _, _⟩) (v := .int .i64 v) rfl (by kernel_rfl) (by kernel_rfl) (by kernel_rfl) (fun _ _ _ h => h) (.inl ⟨by rfl, fun W1 h1 => by subst h1; go_simp⟩) hW ?_
        try simp only [Act.put, List.setIfInBounds_toArray, List.set_cons_zero, List.set_cons_succ]
        refine wpAnyH_take (i := 12) (oi := ⟨some 34, _, _, _, _, _⟩) (v := .bool true) rfl (by kernel_rfl) (by kernel_rfl) (by kernel_rfl) (fun _ _ _ h => h) (.inl ⟨by rfl, fun W1 h1 => by subst h1; go_simp⟩) hW ?_
        try simp only [Act.put, List.setIfInBounds_toArray, List.set_cons_zero, List.set_cons_succ]
        refine wpAnyH_take (i := 13) (oi := ⟨some 35, _, _, _, _, _⟩) (v := .bool true) rfl (by kernel_rfl) (by kernel_rfl) (by kernel_rfl) (fun _ _ _ h => h) (.inl ⟨by rfl, fun W1 h1 => by subst h1; go_simp⟩) hW ?_
        try simp only [Act.put, List.setIfInBounds_toArray, List.set_cons_zero, List.set_cons_succ]
        refine wpAnyH_done (by kernel_rfl) ?_ _
        have y0 : Wd.drew.cell? ⟨w.heap.size, 0, none⟩ = some (.int .i64 u) := q0
        have y1 : Wd.drew.cell? ⟨w.heap.size, 1, none⟩ = some (.int .i64 v) := q1
        have z0 : Wd.drew.cell? ⟨b0, off0 + b * 2, none⟩ = some (.int .i64 s1) := x0
        have z1 : Wd.drew.cell? ⟨b0, off0 + b * 2 + 1, none⟩ = some (.int .i64 s2) := x1
        have di : decide ((b : Int) < (n : Int)) = true := decide_eq_true (by omega)
        clear q0 q1 x0 x1
        go_wp2
        go_still_tail 17, (by kernel_rfl)
        change wpList _ _ _ _ _ Wd.drew
        have HGW := Aside0.mk (show Wd.drew.heap[w.heap.size]? = some (.cells #[.int .i64 u, .int .i64 v] 136 (0, 0)) from blk_below HGD.out (below_drew (Below.refl _ _)))
        have HBW := Aside0.mk (show Below w.heap.size w Wd.drew from below_then HBD.out HBD.out.size (below_drew (Below.refl _ _)))
        generalize Wd.drew = We at *
        have f0 : We.frozen? ⟨w.heap.size, 0, none⟩ = false := frozen_of_row _ _ 0 _ 136 HGW.out
        have f1 : We.frozen? ⟨w.heap.size, 1, none⟩ = false := frozen_of_row _ _ 1 _ 136 HGW.out
        go_wp2
        all_goals
          go_roundw
          case rel =>
            refine ⟨b + 1, _, _, by go_num, by omega, by omega, ?_, ?_, ?_, ⟨?_⟩, ⟨?_⟩, ⟨set2 HGW.out _ _⟩, ⟨(HBW.out.setCell (Nat.le_refl _) _).setCell (Nat.le_refl _) _⟩⟩
            · omega
            · omega
            · omega
            · rw [HE.out, HIN.out hin]
              congr 1
              simp only [Prod.mk.injEq]
              omega
            · intro k hk hkn
              have := HGE2.out k hk hkn
              omega
          case measure => simp [intOf]; omega
      · have dl : decide ((b : Int) < (n : Int)) = true := decide_eq_true (by omega)
        have d1 : decide (s1 ≤ v) = false := decide_eq_false hin
        have HF := Aside0.mk (show addS (l.drop b) (u, v) = (u, v) :: l.drop b from HOUT.out (by omega))
        go_wp2
        refine wp_region_held_drew (S := fun w' => w' = wr.drew) (by kernel_rfl) rfl (fun hW => ?_)
        generalize hWd : wr.drew = Wd at *
        clear hWd
        refine wpAnyH_take (i := 0) (oi := ⟨some 22, _, _, _, _, _⟩) (v := .int .i64 (b : Int)) rfl (by kernel_rfl) (by kernel_rfl) (by kernel_rfl) (fun _ _ _ h => h) (.inl ⟨by rfl, fun W1 h1 => by subst h1; go_simp⟩) hW ?_
        try simp only [Act.put, List.setIfInBounds_toArray, List.set_cons_zero, List.set_cons_succ]
        refine wpAnyH_take (i := 1) (oi := ⟨some 23, _, _, _, _, _⟩) (v := .slice (some ⟨b0, off0, none⟩) n c) rfl (by kernel_rfl) (by kernel_rfl) (by kernel_rfl) (fun _ _ _ h => h) (.inl ⟨by rfl, fun W1 h1 => by subst h1; go_simp⟩) hW ?_
        try simp only [Act.put, List.setIfInBounds_toArray, List.set_cons_zero, List.set_cons_succ]
        refine wpAnyH_take (i := 2) (oi := ⟨some 24, _, _, _, _, _⟩) (v := .int .i64 (n : Int)) rfl (by kernel_rfl) (by kernel_rfl) (by kernel_rfl) (fun _ _ _ h => h) (.inl ⟨by rfl, fun W1 h1 => by subst h1; go_simp⟩) hW ?_
        try simp only [Act.put, List.setIfInBounds_toArray, List.set_cons_zero, List.set_cons_succ]
        refine wpAnyH_take (i := 3) (oi := ⟨some 25, _, _, _, _, _⟩) (v := .bool true) rfl (by kernel_rfl) (by kernel_rfl) (by kernel_rfl) (fun _ _ _ h => h) (.inl ⟨by rfl, fun W1 h1 => by subst h1; go_simp⟩) hW ?_
        try simp only [Act.put, List.setIfInBounds_toArray, List.set_cons_zero, List.set_cons_succ]
        refine wpAnyH_take (i := 4) (oi := ⟨some 26, _, _, _, _, _⟩) (v := .bool true) rfl (by kernel_rfl) (by kernel_rfl) (by kernel_rfl) (fun _ _ _ h => h) (.inl ⟨by rfl, fun W1 h1 => by subst h1; go_simp⟩) hW ?_
        try simp only [Act.put, List.setIfInBounds_toArray, List.set_cons_zero, List.set_cons_succ]
        refine wpAnyH_take (i := 5) (oi := ⟨some 27, _, _, _, _, _⟩) (v := .slice (some ⟨b0, off0, none⟩) n c) rfl (by kernel_rfl) (by kernel_rfl) (by kernel_rfl) (fun _ _ _ h => h) (.inl ⟨by rfl, fun W1 h1 => by subst h1; go_simp⟩) hW ?_
        try simp only [Act.put, List.setIfInBounds_toArray, List.set_cons_zero, List.set_cons_succ]
        refine wpAnyH_take (i := 6) (oi := ⟨some 28, _, _, _, _, _⟩) (v := .int .i64 (b : Int)) rfl (by kernel_rfl) (by kernel_rfl) (by kernel_rfl) (fun _ _ _ h => h) (.inl ⟨by rfl, fun W1 h1 => by subst h1; go_simp⟩) hW ?_
        try simp only [Act.put, List.setIfInBounds_toArray, List.set_cons_zero, List.set_cons_succ]
        refine wpAnyH_take (i := 7) (oi := ⟨some 29, _, _, _, _, _⟩) (v := .pointer (some ⟨b0, off0 + b * 2, none⟩)) rfl (by kernel_rfl) (by kernel_rfl) (by kernel_rfl) (fun _ _ _ h => h) (.inl ⟨by rfl, fun W1 h1 => by subst h1; go_simp⟩) hW ?_
        try simp only [Act.put, List.setIfInBounds_toArray, List.set_cons_zero, List.set_cons_succ]
        refine wpAnyH_take (i := 8) (oi := ⟨some 30, _, _, _, _, _⟩) (v := .pointer (some ⟨b0, off0 + b * 2, none⟩)) rfl (by kernel_rfl) (by kernel_rfl) (by kernel_rfl) (fun _ _ _ h => h) (.inl ⟨by rfl, fun W1 h1 => by subst h1; go_simp⟩) hW ?_
        try simp only [Act.put, List.setIfInBounds_toArray, List.set_cons_zero, List.set_cons_succ]
        refine wpAnyH_take (i := 9) (oi := ⟨some 31, _, _, _, _, _⟩) (v := .int .i64 s1) rfl (by kernel_rfl) (by kernel_rfl) (by kernel_rfl) (fun _ _ _ h => h) (.inl ⟨by rfl, fun W1 h1 => by subst h1; go_simp⟩) hW ?_
        try simp only [Act.put, List.setIfInBounds_toArray, List.set_cons_zero, List.set_cons_succ]
        refine wpAnyH_take (i := 10) (oi := ⟨some 32, _, _, _, _, _⟩) (v := .pointer (some ⟨w.heap.size, 1, none⟩)) rfl (by kernel_rfl) (by kernel_rfl) (by kernel_rfl) (fun _ _ _ h => h) (.inl ⟨by rfl, fun W1 h1 => by subst h1; go_simp⟩) hW ?_
        try simp only [Act.put, List.setIfInBounds_toArray, List.set_cons_zero, List.set_cons_succ]
        refine wpAnyH_take (i := 11) (oi := ⟨some 33, _, _, _, _, _⟩) (v := .int .i64 v) rfl (by kernel_rfl) (by kernel_rfl) (by kernel_rfl) (fun _ _ _ h => h) (.inl ⟨by rfl, fun W1 h1 => by subst h1; go_simp⟩) hW ?_
        try simp only [Act.put, List.setIfInBounds_toArray, List.set_cons_zero, List.set_cons_succ]
        refine wpAnyH_take (i := 12) (oi := ⟨some 34, _, _, _, _, _⟩) (v := .bool false) rfl (by kernel_rfl) (by kernel_rfl) (by kernel_rfl) (fun _ _ _ h => h) (.inl ⟨by rfl, fun W1 h1 => by subst h1; go_simp⟩) hW ?_
        try simp only [Act.put, List.setIfInBounds_toArray, List.set_cons_zero, List.set_cons_succ]
        refine wpAnyH_take (i := 13) (oi := ⟨some 35, _, _, _, _, _⟩) (v := .bool false) rfl (by kernel_rfl) (by kernel_rfl) (by kernel_rfl) (fun _ _ _ h => h) (.inl ⟨by rfl, fun W1 h1 => by subst h1; go_simp⟩) hW ?_
        try simp only [Act.put, List.setIfInBounds_toArray, List.set_cons_zero, List.set_cons_succ]
        refine wpAnyH_done (by kernel_rfl) ?_ _
        clear x0 x1 HX
        have HWA := Aside0.mk (below_then HBD.out HBD.out.size (below_alloc (Below.refl Wd.heap.size Wd) (.cells #[.int .i64 u, .int .i64 v] 136)))
        go_wp2_with fail
        refine (replace_calls (some ⟨b0, off0, none⟩) c n l a b (some ⟨Wd.heap.size, 0, none⟩) 1 1 [(u, v)] _ (Kd.C_below HR.out HWA.out) hnc hm (C_oneS Wd u v) (by omega) hal hbn).mono ?_
        rintro e w9 ⟨vv, rfl, h9, hb9⟩
        obtain ⟨A9, c9, e9⟩ := Kd.R_slice h9
        generalize hn9 : (l.take a ++ [(u, v)] ++ l.drop b).length = n9 at e9
        subst e9
        have HL9 := Aside0.mk (show l.take a ++ [(u, v)] ++ l.drop b = addS l (x, y) by rw [HA.out, HE.out, HF.out, List.append_assoc]; rfl)
        have H9 := Aside0.mk (Kd.R_lower h9 HWA.out.size)
        have HB9 := Aside0.mk (below_then HWA.out HWA.out.size hb9)
        clear h9 hb9 hn9 q0 q1
        go_wp2
        rw [HP.out, ← HL9.out]
        exact ⟨_, rfl, H9.out, HB9.out⟩
    · have dl : decide ((b : Int) < (n : Int)) = false := decide_eq_false (by omega)
      have HF := Aside0.mk (show addS (l.drop b) (u, v) = (u, v) :: l.drop b from addS_out HV.out (u, v) huv b (fun h => by have := HL.out; omega))
      go_wp2
      refine wp_region_held_drew (S := fun w' => w' = wr.drew) (by kernel_rfl) rfl (fun hW => ?_)
      generalize hWd : wr.drew = Wd at *
      clear hWd
      refine wpAnyH_take (i := 0) (oi := ⟨some 22, _, _, _, _, _⟩) (v := .int .i64 (b : Int)) rfl (by kernel_rfl) (by kernel_rfl) (by kernel_rfl) (fun _ _ _ h => h) (.inl ⟨by rfl, fun W1 h1 => by subst h1; go_simp⟩) hW ?_
      try simp only [Act.put, List.setIfInBounds_toArray, List.set_cons_zero, List.set_cons_succ]
      refine wpAnyH_take (i := 1) (oi := ⟨some 23, _, _, _, _, _⟩) (v := .slice A n c) rfl (by kernel_rfl) (by kernel_rfl) (by kernel_rfl) (fun _ _ _ h => h) (.inl ⟨by rfl, fun W1 h1 => by subst h1; go_simp⟩) hW ?_
      try simp only [Act.put, List.setIfInBounds_toArray, List.set_cons_zero, List.set_cons_succ]
      refine wpAnyH_take (i := 2) (oi := ⟨some 24, _, _, _, _, _⟩) (v := .int .i64 (n : Int)) rfl (by kernel_rfl) (by kernel_rfl) (by kernel_rfl) (fun _ _ _ h => h) (.inl ⟨by rfl, fun W1 h1 => by subst h1; go_simp⟩) hW ?_
      try simp only [Act.put, List.setIfInBounds_toArray, List.set_cons_zero, List.set_cons_succ]
      refine wpAnyH_take (i := 3) (oi := ⟨some 25, _, _, _, _, _⟩) (v := .bool false) rfl (by kernel_rfl) (by kernel_rfl) (by kernel_rfl) (fun _ _ _ h => h) (.inl ⟨by rfl, fun W1 h1 => by subst h1; go_simp⟩) hW ?_
      try simp only [Act.put, List.setIfInBounds_toArray, List.set_cons_zero, List.set_cons_succ]
      refine wpAnyH_take (i := 4) (oi := ⟨some 26, _, _, _, _, _⟩) (v := .bool false) rfl (by kernel_rfl) (by kernel_rfl) (by kernel_rfl) (fun _ _ _ h => h) (.inl ⟨by rfl, fun W1 h1 => by subst h1; go_simp⟩) hW ?_
      try simp only [Act.put, List.setIfInBounds_toArray, List.set_cons_zero, List.set_cons_succ]
      refine wpAnyH_take (i := 5) (oi := ⟨some 27, _, _, _, _, _⟩) (v := undef) rfl (by kernel_rfl) (by kernel_rfl) (by kernel_rfl) (fun _ _ _ h => h) (.inr ⟨by rfl, rfl⟩) hW ?_
      try simp only [Act.put, List.setIfInBounds_toArray, List.set_cons_zero, List.set_cons_succ]
      refine wpAnyH_take (i := 6) (oi := ⟨some 28, _, _, _, _, _⟩) (v := undef) rfl (by kernel_rfl) (by kernel_rfl) (by kernel_rfl) (fun _ _ _ h => h) (.inr ⟨by rfl, rfl⟩) hW ?_
      try simp only [Act.put, List.setIfInBounds_toArray, List.set_cons_zero, List.set_cons_succ]
      refine wpAnyH_take (i := 7) (oi := ⟨some 29, _, _, _, _, _⟩) (v := undef) rfl (by kernel_rfl) (by kernel_rfl) (by kernel_rfl) (fun _ _ _ h => h) (.inr ⟨by rfl, rfl⟩) hW ?_
      try simp only [Act.put, List.setIfInBounds_toArray, List.set_cons_zero, List.set_cons_succ]
      refine wpAnyH_take (i := 8) (oi := ⟨some 30, _, _, _, _, _⟩) (v := undef) rfl (by kernel_rfl) (by kernel_rfl) (by kernel_rfl) (fun _ _ _ h => h) (.inr ⟨by rfl, rfl⟩) hW ?_
      try simp only [Act.put, List.setIfInBounds_toArray, List.set_cons_zero, List.set_cons_succ]
      refine wpAnyH_take (i := 9) (oi := ⟨some 31, _, _, _, _, _⟩) (v := undef) rfl (by kernel_rfl) (by kernel_rfl) (by kernel_rfl) (fun _ _ _ h => h) (.inr ⟨by rfl, rfl⟩) hW ?_
      try simp only [Act.put, List.setIfInBounds_toArray, List.set_cons_zero, List.set_cons_succ]
      refine wpAnyH_take (i := 10) (oi := ⟨some 32, _, _, _, _, _⟩) (v := undef) rfl (by kernel_rfl) (by kernel_rfl) (by kernel_rfl) (fun _ _ _ h => h) (.inr ⟨by rfl, rfl⟩) hW ?_
      try simp only [Act.put, List.setIfInBounds_toArray, List.set_cons_zero, List.set_cons_succ]
      refine wpAnyH_take (i := 11) (oi := ⟨some 33, _, _, _, _, _⟩) (v := undef) rfl (by kernel_rfl) (by kernel_rfl) (by kernel_rfl) (fun _ _ _ h => h) (.inr ⟨by rfl, rfl⟩) hW ?_
      try simp only [Act.put, List.setIfInBounds_toArray, List.set_cons_zero, List.set_cons_succ]
      refine wpAnyH_take (i := 12) (oi := ⟨some 34, _, _, _, _, _⟩) (v := undef) rfl (by kernel_rfl) (by kernel_rfl) (by kernel_rfl) (fun _ _ _ h => h) (.inr ⟨by rfl, rfl⟩) hW ?_
      try simp only [Act.put, List.setIfInBounds_toArray, List.set_cons_zero, List.set_cons_succ]
      refine wpAnyH_take (i := 13) (oi := ⟨some 35, _, _, _, _, _⟩) (v := .bool false) rfl (by kernel_rfl) (by kernel_rfl) (by kernel_rfl) (fun _ _ _ h => h) (.inl ⟨by rfl, fun W1 h1 => by subst h1; go_simp⟩) hW ?_
      try simp only [Act.put, List.setIfInBounds_toArray, List.set_cons_zero, List.set_cons_succ]
      refine wpAnyH_done (by kernel_rfl) ?_ _
      have HWA := Aside0.mk (below_then HBD.out HBD.out.size (below_alloc (Below.refl Wd.heap.size Wd) (.cells #[.int .i64 u, .int .i64 v] 136)))
      go_wp2_with fail
      refine (replace_calls A c n l a b (some ⟨Wd.heap.size, 0, none⟩) 1 1 [(u, v)] _ (Kd.C_below HR.out HWA.out) hnc hm (C_oneS Wd u v) (by omega) hal hbn).mono ?_
      rintro e w9 ⟨vv, rfl, h9, hb9⟩
      obtain ⟨A9, c9, e9⟩ := Kd.R_slice h9
      generalize hn9 : (l.take a ++ [(u, v)] ++ l.drop b).length = n9 at e9
      subst e9
      have HL9 := Aside0.mk (show l.take a ++ [(u, v)] ++ l.drop b = addS l (x, y) by rw [HA.out, HE.out, HF.out, List.append_assoc]; rfl)
      have H9 := Aside0.mk (Kd.R_lower h9 HWA.out.size)
      have HB9 := Aside0.mk (below_then HWA.out HWA.out.size hb9)
      clear h9 hb9 hn9 q0 q1
      go_wp2
      rw [HP.out, ← HL9.out]
      exact ⟨_, rfl, H9.out, HB9.out⟩
end Go.Proofs.YtchhdafgmifhdaaGreat.ExtD
namespace Go.Proofs.YtchhdafgmifhdaaGreat.ExtE
open Go.RowKit Go.Proofs.YtchhdafgmifhdaaGreat.B8 Go.Proofs.YtchhdafgmifhdaaGreat.Agg Go.Proofs.YtchhdafgmifhdaaGreat.CodL Go.Proofs.YtchhdafgmifhdaaGreat.CodA Go.Proofs.YtchhdafgmifhdaaGreat.CodB Go.Proofs.YtchhdafgmifhdaaGreat.CrcL Go.Proofs.YtchhdafgmifhdaaGreat.CrcA Go.Proofs.YtchhdafgmifhdaaGreat.CrcB Go.Proofs.YtchhdafgmifhdaaGreat.PVerifyForms Go.Proofs.YtchhdafgmifhdaaGreatW.PrintWords Go.Proofs.YtchhdafgmifhdaaGreatW.PrintLast Go.Proofs.YtchhdafgmifhdaaGreatW.PrintMore Go.Proofs.YtchhdafgmifhdaaGreat.ExtL Go.Proofs.YtchhdafgmifhdaaGreat.ExtA Go.Proofs.YtchhdafgmifhdaaGreat.ExtB Go.Proofs.YtchhdafgmifhdaaGreat.ExtC Go.Proofs.YtchhdafgmifhdaaGreat.ExtD
set_option linter.unusedVariables false
set_option linter.unusedSimpArgs false
end Go.Proofs.YtchhdafgmifhdaaGreat.ExtE
namespace Go.Proofs.YtchhdafgmifhdaaGreat.ExtF
open Go.RowKit Go.Proofs.YtchhdafgmifhdaaGreat.B8 Go.Proofs.YtchhdafgmifhdaaGreat.Agg Go.Proofs.YtchhdafgmifhdaaGreat.CodL Go.Proofs.YtchhdafgmifhdaaGreat.CodA Go.Proofs.YtchhdafgmifhdaaGreat.CodB Go.Proofs.YtchhdafgmifhdaaGreat.CrcL Go.Proofs.YtchhdafgmifhdaaGreat.CrcA Go.Proofs.YtchhdafgmifhdaaGreat.CrcB Go.Proofs.YtchhdafgmifhdaaGreat.PVerifyForms Go.Proofs.YtchhdafgmifhdaaGreatW.PrintWords Go.Proofs.YtchhdafgmifhdaaGreatW.PrintLast Go.Proofs.YtchhdafgmifhdaaGreatW.PrintMore Go.Proofs.YtchhdafgmifhdaaGreat.ExtL Go.Proofs.YtchhdafgmifhdaaGreat.ExtA Go.Proofs.YtchhdafgmifhdaaGreat.ExtB Go.Proofs.YtchhdafgmifhdaaGreat.ExtC Go.Proofs.YtchhdafgmifhdaaGreat.ExtD Go.Proofs.YtchhdafgmifhdaaGreat.ExtE
set_option linter.unusedVariables false
set_option linter.unusedSimpArgs false
theorem findS_at : ∀ (l : List Sp) (m : Int) (i : Nat), i < l.length → (∀ k, k < i → (l.getD k (0, 0)).2 - (l.getD k (0, 0)).1 < m) → m ≤ (l.getD i (0, 0)).2 - (l.getD i (0, 0)).1 → findS l m = some (l.getD i (0, 0)).1
  | [], m, i, h, _, _ => by simp at h
  | s :: l, m, 0, _, _, h => by
    have h' : m ≤ s.2 - s.1 := h
    rw [findS, if_pos h']; rfl
  | s :: l, m, i + 1, h, h1, h2 => by
    have h0 := h1 0 (by omega)
    have h0' : s.2 - s.1 < m := h0
    rw [findS, if_neg (by omega), findS_at l m i (by simpa using h) (fun k hk => h1 (k + 1) (by omega)) h2]
    rfl
theorem findS_no : ∀ (l : List Sp) (m : Int), (∀ k, k < l.length → (l.getD k (0, 0)).2 - (l.getD k (0, 0)).1 < m) → findS l m = none
  | [], m, _ => rfl
  | s :: l, m, h => by
    have h0 : s.2 - s.1 < m := h 0 (by simp)
    rw [findS, if_neg (by omega), findS_no l m (fun k hk => h (k + 1) (by simpa using hk))]
set_option maxRecDepth 100000 in
theorem long_calls (x y m : Int) (g : Nat) (h1 : -1 ≤ x) (h2 : x < y) (h3 : y ≤ 1099511627776) (W : World) (hg : W.heap[g]? = some (.cells #[.int .i64 m] 3 (0, 0))) :
    Calls Tryz.prog 148 #[.agg #[.int .i64 x, .int .i64 y], .pointer (some ⟨g, 0, none⟩)] W fun e W' => e = .returned (.bool (decide (m ≤ y - x))) ∧ Below W.heap.size W W' := by
  have HB := Aside0.mk (below_alloc (Below.refl W.heap.size W) (.cells #[.int .i64 x, .int .i64 y] 136))
  have q0 : (W.alloc (.cells #[.int .i64 x, .int .i64 y] 136)).cell? ⟨W.heap.size, 0, none⟩ = some (.int .i64 x) := by rw [cell_of_row _ _ 0 _ 136 (0, 0) (blk_new W _)]; rfl
  have q1 : (W.alloc (.cells #[.int .i64 x, .int .i64 y] 136)).cell? ⟨W.heap.size, 1, none⟩ = some (.int .i64 y) := by rw [cell_of_row _ _ 1 _ 136 (0, 0) (blk_new W _)]; rfl
  have q2 : (W.alloc (.cells #[.int .i64 x, .int .i64 y] 136)).cell? ⟨g, 0, none⟩ = some (.int .i64 m) := by rw [cell_of_row _ _ 0 _ 3 (0, 0) (blk_alloc hg _)]; rfl
  have hw : IntKind.i64.wrap (y - x) = y - x := i64_small (by omega) (by omega)
  obtain ⟨P, hP⟩ : ∃ P : Ending → World → Prop, P = (fun e W' => e = .returned (.bool (decide (m ≤ y - x))) ∧ Below W.heap.size W W') := ⟨_, rfl⟩
  rw [← hP]
  have HP := Aside0.mk hP
  clear hP hg
  go_enter Tryz.func148, Tryz.ntmps148
  go_wp2
  rw [HP.out]
  exact ⟨rfl, HB.out⟩
def TellsIx (w : World) (l : List Sp) (m : Int) (e : Ending) (w' : World) : Prop :=
  ((∃ i : Nat, i < l.length ∧ (∀ k, k < i → (l.getD k (0, 0)).2 - (l.getD k (0, 0)).1 < m) ∧ m ≤ (l.getD i (0, 0)).2 - (l.getD i (0, 0)).1 ∧ e = .returned (.int .i64 (i : Int))) ∨
    ((∀ k, k < l.length → (l.getD k (0, 0)).2 - (l.getD k (0, 0)).1 < m) ∧ e = .returned (.int .i64 (-1)))) ∧ Below w.heap.size w w'
set_option maxRecDepth 100000 in
set_option maxHeartbeats 2000000 in
theorem index_calls (A : Option Addr) (c n : Nat) (l : List Sp) (m : Int) (g : Nat) (w : World) (hr : Kd.C kS w A n l) (hnc : n ≤ c) (hm : n ≤ 100000) (hv : VS (-1) l) (hg : w.heap[g]? = some (.cells #[.int .i64 m] 3 (0, 0))) :
    Calls Tryz.prog 147 #[.slice A n c, .func (.func 148) #[] #[.pointer (some ⟨g, 0, none⟩)]] w (TellsIx w l m) := by
  have HR := Aside0.mk hr
  have HL := Aside0.mk hr.1
  have HV := Aside0.mk hv
  have HG := Aside0.mk hg
  obtain ⟨P, hP⟩ : ∃ P : Ending → World → Prop, P = TellsIx w l m := ⟨_, rfl⟩
  rw [← hP]
  have HP := Aside0.mk hP
  clear hP hr hv hg
  go_enter Tryz.func147, Tryz.ntmps147
  go_wp2
  go_loopw [8] (fun v8 wr => ∃ (i : Nat), v8 = .int .i64 (i : Int) ∧ i ≤ n ∧ Aside0 (∀ k, k < i → (l.getD k (0, 0)).2 - (l.getD k (0, 0)).1 < m) ∧ Aside0 (Below w.heap.size w wr)) (fun v _ => n - (intOf v).toNat)
  case atStart => exact ⟨0, rfl, Nat.zero_le _, ⟨fun k h => absurd h (Nat.not_lt_zero _)⟩, ⟨Below.refl _ _⟩⟩
  case round =>
    obtain ⟨i, rfl, hi, HLo, HB⟩ := hrel
    by_cases hlt : i < n
    · obtain ⟨b0, off0, rfl, hb0, hx0⟩ := CS_at HR.out (by omega)
      obtain ⟨x0, x1⟩ := hx0 i hlt
      have hgt := VS.get HV.out (i := i) (by have := HL.out; omega)
      obtain ⟨s, hs⟩ : ∃ s, s = l.getD i (0, 0) := ⟨_, rfl⟩
      rw [← hs] at x0 x1 hgt
      replace x0 := (HB.out.cell (p := ⟨b0, off0 + i * 2, none⟩) hb0).trans x0
      replace x1 := (HB.out.cell (p := ⟨b0, off0 + i * 2 + 1, none⟩) hb0).trans x1
      have HS := Aside0.mk hs
      obtain ⟨x, y⟩ := s
      simp only at x0 x1 hgt
      have HX := Aside0.mk hgt
      have HG1 := Aside0.mk (blk_below HG.out HB.out)
      clear hs hx0 hb0 hgt
      go_wp2_with fail
      refine (long_calls x y m g (by have := HX.out; omega) HX.out.2.1 HX.out.2.2 wr HG1.out).mono ?_
      rintro e w2 ⟨he, hb2⟩
      have HB2 := Aside0.mk (below_then HB.out HB.out.size hb2)
      clear hb2 x0 x1
      by_cases hml : m ≤ y - x
      · rw [decide_eq_true hml] at he
        subst he
        have HML := Aside0.mk hml
        clear hml
        go_wp2
        rw [HP.out]
        exact ⟨.inl ⟨i, by have := HL.out; omega, HLo.out, by rw [← HS.out]; exact HML.out, rfl⟩, HB2.out⟩
      · rw [decide_eq_false hml] at he
        subst he
        have HN := Aside0.mk (show ∀ k, k < i + 1 → (l.getD k (0, 0)).2 - (l.getD k (0, 0)).1 < m from fun k hk => by
          rcases Nat.lt_or_ge k i with h | h
          · exact HLo.out k h
          · obtain rfl : k = i := by omega
            rw [← HS.out]
            simp only
            omega)
        clear hml
        go_wp2
        go_roundw
        case rel => exact ⟨i + 1, by go_num, by omega, HN, HB2⟩
        case measure => simp [intOf]; omega
    · go_wp2
      rw [HP.out]
      exact ⟨.inr ⟨fun k hk => HLo.out k (by have := HL.out; omega), rfl⟩, HB.out⟩
def findI (l : List Sp) (m : Int) : Int := (findS l m).getD (-1)
set_option maxRecDepth 100000 in
theorem find_calls (A : Option Addr) (c n : Nat) (l : List Sp) (m : Int) (w : World) (hr : Kd.C kS w A n l) (hnc : n ≤ c) (hm : n ≤ 100000) (hv : VS (-1) l) (h1 : 1 ≤ m) :
    Calls Tryz.prog 122 #[.slice A n c, .int .i64 m] w fun e w' => e = .returned (.int .i64 (findI l m)) ∧ Below w.heap.size w w' := by
  have HR := Aside0.mk hr
  have HL := Aside0.mk hr.1
  have HV := Aside0.mk hv
  obtain ⟨P, hP⟩ : ∃ P : Ending → World → Prop, P = (fun e w' => e = .returned (.int .i64 (findI l m)) ∧ Below w.heap.size w w') := ⟨_, rfl⟩
  rw [← hP]
  have HP := Aside0.mk hP
  have HB := Aside0.mk (below_alloc (Below.refl w.heap.size w) (.cells #[.int .i64 m] 3))
  have HG := Aside0.mk (blk_new w (.cells #[.int .i64 m] 3))
  have d1 : decide (m < 1) = false := decide_eq_false (by omega)
  clear hP hr hv
  go_enter Tryz.func122, Tryz.ntmps122
  go_wp2_with fail
  generalize hW1 : w.alloc (.cells #[.int .i64 m] 3) = W1 at *
  clear hW1
  refine (index_calls A c n l m w.heap.size W1 (Kd.C_below HR.out HB.out) hnc hm HV.out HG.out).mono ?_
  rintro e W2 ⟨hcase, hb2⟩
  have HB2 := Aside0.mk (below_then HB.out HB.out.size hb2)
  have hg2 := blk_below HG.out hb2
  have q0 : W2.cell? ⟨w.heap.size, 0, none⟩ = some (.int .i64 m) := by rw [cell_of_row _ _ 0 _ 3 (0, 0) hg2]; rfl
  clear hb2 hg2 HB HG
  rcases hcase with ⟨i, hil, hlo, hmi, rfl⟩ | ⟨hno, rfl⟩
  · have HF := Aside0.mk (show findI l m = (l.getD i (0, 0)).1 by unfold findI; rw [findS_at l m i hil hlo hmi]; rfl)
    have hin : i < n := by have := HL.out; omega
    have d2 : decide ((i : Int) < 0) = false := decide_eq_false (by omega)
    clear hil hlo hmi
    go_wp2_with fail
    refine (valid_calls A c n l W2 (Kd.C_below HR.out HB2.out) hnc hm).mono ?_
    rintro e W3 ⟨he, hb3⟩
    rw [decide_eq_true HV.out] at he
    subst he
    have HB3 := Aside0.mk (below_then HB2.out HB2.out.size hb3)
    obtain ⟨b0, off0, rfl, hb0, hx0⟩ := CS_at HR.out (by omega)
    obtain ⟨x0, _⟩ := hx0 i hin
    rw [← HF.out] at x0
    replace x0 := (HB3.out.cell (p := ⟨b0, off0 + i * 2, none⟩) hb0).trans x0
    clear hx0 hb0 hb3 q0
    go_wp2
    rw [HP.out]
    exact ⟨rfl, HB3.out⟩
  · have HF := Aside0.mk (show findI l m = -1 by unfold findI; rw [findS_no l m hno]; rfl)
    clear hno
    go_wp2
    rw [HP.out, HF.out]
    exact ⟨rfl, HB2.out⟩
end Go.Proofs.YtchhdafgmifhdaaGreat.ExtF
namespace Go.Proofs.YtchhdafgmifhdaaGreat.ExtG
open Go.RowKit Go.Proofs.YtchhdafgmifhdaaGreat.B8 Go.Proofs.YtchhdafgmifhdaaGreat.Agg Go.Proofs.YtchhdafgmifhdaaGreat.CodL Go.Proofs.YtchhdafgmifhdaaGreat.CodA Go.Proofs.YtchhdafgmifhdaaGreat.CodB Go.Proofs.YtchhdafgmifhdaaGreat.CrcL Go.Proofs.YtchhdafgmifhdaaGreat.CrcA Go.Proofs.YtchhdafgmifhdaaGreat.CrcB Go.Proofs.YtchhdafgmifhdaaGreat.PVerifyForms Go.Proofs.YtchhdafgmifhdaaGreatW.PrintWords Go.Proofs.YtchhdafgmifhdaaGreatW.PrintLast Go.Proofs.YtchhdafgmifhdaaGreatW.PrintMore Go.Proofs.YtchhdafgmifhdaaGreat.ExtL Go.Proofs.YtchhdafgmifhdaaGreat.ExtA Go.Proofs.YtchhdafgmifhdaaGreat.ExtB Go.Proofs.YtchhdafgmifhdaaGreat.ExtC Go.Proofs.YtchhdafgmifhdaaGreat.ExtD Go.Proofs.YtchhdafgmifhdaaGreat.ExtE Go.Proofs.YtchhdafgmifhdaaGreat.ExtF
set_option linter.unusedVariables false
set_option linter.unusedSimpArgs false
theorem remS_skip : ∀ (l : List Sp) (s : Sp) (a : Nat), (∀ k, k < a → (l.getD k (0, 0)).2 ≤ s.1) → a ≤ l.length → remS l s = l.take a ++ remS (l.drop a) s
  | l, s, 0, _, _ => by simp
  | [], s, a + 1, _, h => by simp at h
  | x :: l, s, a + 1, h, hl => by
    have h0 : x.2 ≤ s.1 := h 0 (by omega)
    rw [remS, if_pos h0, remS_skip l s a (fun k hk => h (k + 1) (by omega)) (by simpa using hl)]
    rfl
theorem remS_in1 (l : List Sp) (s : Sp) (b : Nat) (h : b < l.length) (h1 : s.1 < (l.getD b (0, 0)).2) (h2 : (l.getD b (0, 0)).1 < s.2) :
    remS (l.drop b) s = piecesS (l.getD b (0, 0)) s ++ remS (l.drop (b + 1)) s := by
  rw [drop_get l b h, remS, if_neg (by omega), if_neg (by omega)]
theorem remS_out {last : Int} {l : List Sp} (hv : VS last l) (s : Sp) (hs : s.1 < s.2) (b : Nat) (h : b < l.length → s.2 ≤ (l.getD b (0, 0)).1) : remS (l.drop b) s = l.drop b := by
  by_cases hb : b < l.length
  · have := h hb
    have hg := VS.get hv hb
    rw [drop_get l b hb, remS, if_neg (by omega), if_pos this]
  · rw [List.drop_of_length_le (by omega)]
    rfl
/-- The first pieces. -/
def pcs (x s : Sp) : Nat → List Sp
  | 0 => []
  | 1 => if x.1 < s.1 then [(x.1, s.1)] else []
  | _ => piecesS x s
def pcN (x s : Sp) : Nat → Sp
  | 0 => (x.1, s.1)
  | _ => (s.2, x.2)
theorem pcs_succ (x s : Sp) (hx0 : 0 ≤ x.1) (hx : x.1 < x.2) (hx2 : x.2 ≤ 1099511627776) (hs0 : 0 ≤ s.1) (hs : s.1 < s.2) (hs2 : s.2 ≤ 1099511627776) : ∀ k, k < 2 → pcs x s (k + 1) = pcs x s k ++ (if okS (pcN x s k) then [pcN x s k] else [])
  | 0, _ => by
    show (if x.1 < s.1 then [(x.1, s.1)] else []) = [] ++ (if okS (x.1, s.1) then [(x.1, s.1)] else [])
    by_cases h : x.1 < s.1
    · rw [if_pos h, if_pos ⟨hx0, h, by simp only; omega⟩]; rfl
    · rw [if_neg h, if_neg (show ¬ okS (x.1, s.1) from fun hk => h hk.2.1)]; rfl
  | 1, _ => by
    show piecesS x s = (if x.1 < s.1 then [(x.1, s.1)] else []) ++ (if okS (s.2, x.2) then [(s.2, x.2)] else [])
    unfold piecesS
    by_cases h : s.2 < x.2
    · rw [if_pos h, if_pos (show okS (s.2, x.2) from ⟨by simp only; omega, h, hx2⟩)]
    · rw [if_neg h, if_neg (show ¬ okS (s.2, x.2) from fun hk => h hk.2.1)]
theorem pcs_len (x s : Sp) : ∀ k, (pcs x s k).length ≤ 2
  | 0 => by simp [pcs]
  | 1 => by
    show (if x.1 < s.1 then [(x.1, s.1)] else [] : List Sp).length ≤ 2
    by_cases h : x.1 < s.1
    · rw [if_pos h]; simp
    · rw [if_neg h]; simp
  | k + 2 => by
    show (piecesS x s).length ≤ 2
    unfold piecesS
    rw [List.length_append]
    by_cases h : x.1 < s.1 <;> by_cases h2 : s.2 < x.2 <;> simp [h, h2]
theorem remS_len : ∀ (l : List Sp) (s : Sp), (remS l s).length ≤ 2 * l.length
  | [], _ => by simp [remS]
  | x :: l, s => by
    have ih := remS_len l s
    have hp := pcs_len x s 2
    rw [remS]
    split
    · simp only [List.length_cons]; omega
    · split
      · simp only [List.length_cons]; omega
      · rw [List.length_append, List.length_cons]
        have : (piecesS x s).length ≤ 2 := hp
        omega
theorem index77a (x1 s1 s2 x2 : Int) (W : World) : (Instr.index 224 (.agg #[.int .i64 x1, .int .i64 s1, .int .i64 s2, .int .i64 x2]) (.int .i64 ((0 : Nat) : Int))).run Tryz.prog W = .ok (.agg #[.int .i64 x1, .int .i64 s1]) W := by kernel_rfl
theorem index77b (x1 s1 s2 x2 : Int) (W : World) : (Instr.index 224 (.agg #[.int .i64 x1, .int .i64 s1, .int .i64 s2, .int .i64 x2]) (.int .i64 ((1 : Nat) : Int))).run Tryz.prog W = .ok (.agg #[.int .i64 s2, .int .i64 x2]) W := by kernel_rfl
theorem index77 (x1 s1 s2 x2 : Int) (k : Nat) (hk : k < 2) (W : World) : (Instr.index 224 (.agg #[.int .i64 x1, .int .i64 s1, .int .i64 s2, .int .i64 x2]) (.int .i64 (k : Int))).run Tryz.prog W = .ok (.agg #[.int .i64 (pcN (x1, x2) (s1, s2) k).1, .int .i64 (pcN (x1, x2) (s1, s2) k).2]) W := by
  have h : k = 0 ∨ k = 1 := by omega
  rcases h with rfl | rfl
  · exact index77a x1 s1 s2 x2 W
  · exact index77b x1 s1 s2 x2 W
theorem pcN_ge (x s : Sp) (h : x.1 < s.2) (k : Nat) : x.1 ≤ (pcN x s k).1 := by
  unfold pcN
  split
  · exact Int.le_refl _
  · simp only; omega
section
variable {ops : Array Oper} {o : Oper} {rest : List Oper} {a : Act} {Q : Exit → Act → World → Prop}
theorem append_keepS {W : World} {base g : Nat} (hgd : o.guard = none) (s x : Operand) (ho : o.op = .call { callee := .builtin .append, args := #[s, x], argTypes := #[74, 74] })
    (v : Value) (xs ys : List Sp) (A : Option Addr) (m c : Nat) (hs : a.eval s = v) (hx : a.eval x = .slice A m c)
    (HO : Kd.R kS 136 W base (fun k => k ≠ g) v xs) (HR : Kd.C kS W A m ys) (hbase : base ≤ W.heap.size) (hg : g < W.heap.size) (hl : xs.length + m ≤ 1000000)
    (h : ∀ A1 n1 c1 w1, n1 = (xs ++ ys).length → Kd.R kS 136 w1 base (fun k => k ≠ g) (.slice A1 n1 c1) (xs ++ ys) → Below base W w1 → (∀ ob, W.heap[g]? = some ob → w1.heap[g]? = some ob) → wpList Tryz.prog ops Q rest (a.put o.dst (.slice A1 n1 c1)) w1) : wpList Tryz.prog ops Q (o :: rest) a W :=
  Kd.R_append_rows (P := Tryz.prog) kS (w0 := W) base hgd s x 74 136 (.agg #[.int .i64 0, .int .i64 0]) 16 ho Tryz.underlying74 ExtC.info42 rfl (by decide) (by decide) v xs ys A m c (fun k => k ≠ g) (fun _ => False) hs hx HO HR (fun _ _ h => h) (fun _ h => h.elim) (fun k hk => by omega) (Below.refl _ _) hbase (by omega)
    (fun v1 w1 h1 h2 h3 _ => by
      obtain ⟨A1, c1, e1⟩ := Kd.R_slice h1
      subst e1
      exact h A1 _ c1 w1 rfl h1 h2 (fun ob hob => blk_grown hob h3 (fun e => HO.1 g e.symm rfl)))
end
set_option maxRecDepth 100000 in
set_option maxHeartbeats 8000000 in
theorem remove_calls (A : Option Addr) (c n : Nat) (l : List Sp) (x y : Int) (w : World) (hr : Kd.C kS w A n l) (hnc : n ≤ c) (hm : n ≤ 10000) (hv : VS (-1) l) (hok : okS (x, y)) :
    Calls Tryz.prog 123 #[.slice A n c, .agg #[.int .i64 x, .int .i64 y]] w (TellsS w (remS l (x, y))) := by
  have HR := Aside0.mk hr
  have HL := Aside0.mk hr.1
  have HV := Aside0.mk hv
  have HOK := Aside0.mk hok
  obtain ⟨P, hP⟩ : ∃ P : Ending → World → Prop, P = TellsS w (remS l (x, y)) := ⟨_, rfl⟩
  rw [← hP]
  have HP := Aside0.mk hP
  have HB := Aside0.mk (below_alloc (Below.refl w.heap.size w) (.cells #[.int .i64 x, .int .i64 y] 136))
  have HG := Aside0.mk (blk_new w (.cells #[.int .i64 x, .int .i64 y] 136))
  have hw1 : IntKind.i64.wrap (x + 1) = x + 1 := i64_small (by have := hok.1; simp only at this; omega) (by have := hok.2.1; have := hok.2.2; simp only at *; omega)
  have HW1 := Aside0.mk hw1
  clear hP hr hv hok hw1
  go_enter Tryz.func123, Tryz.ntmps123
  go_wp2_with fail
  generalize hW1 : w.alloc (.cells #[.int .i64 x, .int .i64 y] 136) = W1 at *
  clear hW1
  refine (valid_calls A c n l W1 (Kd.C_below HR.out HB.out) hnc (by omega)).mono ?_
  rintro e W2 ⟨he, hb2⟩
  rw [decide_eq_true HV.out] at he
  subst he
  have HB2 := Aside0.mk (below_then HB.out HB.out.size hb2)
  have hg2 := blk_below HG.out hb2
  have HG2 := Aside0.mk hg2
  have q0 : W2.cell? ⟨w.heap.size, 0, none⟩ = some (.int .i64 x) := by rw [cell_of_row _ _ 0 _ 136 (0, 0) hg2]; rfl
  have q1 : W2.cell? ⟨w.heap.size, 1, none⟩ = some (.int .i64 y) := by rw [cell_of_row _ _ 1 _ 136 (0, 0) hg2]; rfl
  clear hb2 hg2
  go_wp2_with fail
  refine (right_calls (x, y) W2).mono ?_
  rintro e W3 ⟨he, hb3⟩
  rw [decide_eq_true HOK.out] at he
  subst he
  have HB3 := Aside0.mk (below_then HB2.out HB2.out.size hb3)
  have hg3 := blk_below HG2.out hb3
  have HG3 := Aside0.mk hg3
  have r0 : W3.cell? ⟨w.heap.size, 0, none⟩ = some (.int .i64 x) := by rw [cell_of_row _ _ 0 _ 136 (0, 0) hg3]; rfl
  have hw1 := HW1.out
  clear q0 q1 hb3 hg3 HB HG HB2 HG2
  go_wp2_with fail
  refine (first_calls A c n l (x + 1) W3 (Kd.C_below HR.out HB3.out) hnc (by omega) HV.out (by have := HOK.out.1; have := HOK.out.2; simp only at *; omega)).mono ?_
  rintro e W4 ⟨he, hb4⟩
  obtain ⟨a, ha⟩ : ∃ a, a = first l (x + 1) := ⟨_, rfl⟩
  rw [← ha] at he
  subst he
  have hal : a ≤ n := by rw [ha]; have := first_le l (x + 1); have := HL.out; omega
  have HA := Aside0.mk (show remS l (x, y) = l.take a ++ remS (l.drop a) (x, y) from remS_skip l (x, y) a (fun k hk => by have := first_lt l (x + 1) k (by omega); simp only; omega) (by have := HL.out; omega))
  have HGE := Aside0.mk (show ∀ k, a ≤ k → k < n → x + 1 ≤ (l.getD k (0, 0)).2 from fun k hk hkn => first_ge HV.out (x + 1) k (by omega) (by have := HL.out; omega))
  have HB4 := Aside0.mk (below_then HB3.out HB3.out.size hb4)
  have HG4 := Aside0.mk (blk_below HG3.out hb4)
  have HRL := Aside0.mk (show (remS (l.drop a) (x, y)).length ≤ 2 * n by have := remS_len (l.drop a) (x, y); rw [List.length_drop] at this; have := HL.out; omega)
  have hxy := HOK.out
  have hx0 : 0 ≤ x := hxy.1
  have hxy1 : x < y := hxy.2.1
  have hy2 : y ≤ 1099511627776 := hxy.2.2
  clear ha r0 hb4 HB3 HG3 hw1 hxy
  go_wp2
  go_loopw [6, 7] (fun v6 v7 wr => ∃ (b n7 c7 : Nat) (A7 : Option Addr) (L : List Sp), v6 = .int .i64 (b : Int) ∧ v7 = .slice A7 n7 c7 ∧ a ≤ b ∧ b ≤ n ∧ Aside0 (remS (l.drop a) (x, y) = L ++ remS (l.drop b) (x, y)) ∧ Aside0 (Kd.R kS 136 wr (w.heap.size + 1) (fun _ => True) (.slice A7 n7 c7) L) ∧ Aside0 (wr.heap[w.heap.size]? = some (.cells #[.int .i64 x, .int .i64 y] 136 (0, 0))) ∧ Aside0 (Below w.heap.size w wr)) (fun v _ _ => n - (intOf v).toNat)
  case atStart => exact ⟨a, 0, 0, none, [], rfl, rfl, Nat.le_refl _, hal, ⟨rfl⟩, ⟨Kd.R_nil _ _ _ _ _⟩, HG4, HB4⟩
  case round =>
    clear HG4 HB4
    obtain ⟨b, n7, c7, A7, L, rfl, rfl, hab, hbn, HE, HRW, HG, HB⟩ := hrel
    have HBD := Aside0.mk (below_then HB.out HB.out.size (below_drew (Below.refl wr.heap.size wr)))
    have HGD := Aside0.mk (blk_below HG.out (below_drew (Below.refl wr.heap.size wr)))
    have HRD := Aside0.mk (Kd.R_below HRW.out (below_drew (Below.refl _ _)))
    have q1 : wr.drew.cell? ⟨w.heap.size, 1, none⟩ = some (.int .i64 y) := by rw [cell_of_row _ _ 1 _ 136 (0, 0) HGD.out]; rfl
    by_cases hlt : b < n
    · obtain ⟨b0, off0, rfl, hb0, hx0'⟩ := CS_at HR.out (by omega)
      obtain ⟨x0, x1⟩ := hx0' b hlt
      have hge := HGE.out b hab hlt
      have hgt := VS.get HV.out (i := b) (by have := HL.out; omega)
      have HIN := Aside0.mk (fun h2 => remS_in1 l (x, y) b (by have := HL.out; omega) (by simp only; omega) h2)
      have HOUT := Aside0.mk (fun (h2 : y ≤ (l.getD b (0, 0)).1) => remS_out HV.out (x, y) hxy1 b (fun _ => h2))
      obtain ⟨s, hs⟩ : ∃ s, s = l.getD b (0, 0) := ⟨_, rfl⟩
      rw [← hs] at x0 x1 hge hgt HIN HOUT
      replace x0 := HBD.out.cell (p := ⟨b0, off0 + b * 2, none⟩) hb0 |>.trans x0
      replace x1 := HBD.out.cell (p := ⟨b0, off0 + b * 2 + 1, none⟩) hb0 |>.trans x1
      obtain ⟨u, v⟩ := s
      simp only at x0 x1 hge hgt HIN HOUT
      clear hs hx0' hb0
      have dl : decide ((b : Int) < (n : Int)) = true := decide_eq_true (by omega)
      by_cases hin : u < y
      · have d1 : decide (u < y) = true := decide_eq_true hin
        go_wp2
        refine wp_region_held_drew (S := fun w' => w' = wr.drew) (by kernel_rfl) rfl (fun hW => ?_)
        generalize hWd : wr.drew = Wd at *
        clear hWd
        refine wpAnyH_take (i := 0) (oi := ⟨some 27, _, _, _, _, _⟩) (v := .int .i64 (b : Int)) rfl (by kernel_rfl) (by kernel_rfl) (by kernel_rfl) (fun _ _ _ h => h) (.inl ⟨by rfl, fun W1 h1 => by subst h1; go_simp⟩) hW ?_
        try simp only [Act.put, List.setIfInBounds_toArray, List.set_cons_zero, List.set_cons_succ]
        refine wpAnyH_take (i := 1) (oi := ⟨some 28, _, _, _, _, _⟩) (v := .slice (some ⟨b0, off0, none⟩) n c) rfl (by kernel_rfl) (by kernel_rfl) (by kernel_rfl) (fun _ _ _ h => h) (.inl ⟨by rfl, fun W1 h1 => by subst h1; go_simp⟩) hW ?_
        try simp only [Act.put, List.setIfInBounds_toArray, List.set_cons_zero, List.set_cons_succ]
        refine wpAnyH_take (i := 2) (oi := ⟨some 29, _, _, _, _, _⟩) (v := .int .i64 (n : Int)) rfl (by kernel_rfl) (by kernel_rfl) (by kernel_rfl) (fun _ _ _ h => h) (.inl ⟨by rfl, fun W1 h1 => by subst h1; go_simp⟩) hW ?_
        try simp only [Act.put, List.setIfInBounds_toArray, List.set_cons_zero, List.set_cons_succ]
        refine wpAnyH_take (i := 3) (oi := ⟨some 30, _, _, _, _, _⟩) (v := .bool true) rfl (by kernel_rfl) (by kernel_rfl) (by kernel_rfl) (fun _ _ _ h => h) (.inl ⟨by rfl, fun W1 h1 => by subst h1; go_simp⟩) hW ?_
        try simp only [Act.put, List.setIfInBounds_toArray, List.set_cons_zero, List.set_cons_succ]
        refine wpAnyH_take (i := 4) (oi := ⟨some 31, _, _, _, _, _⟩) (v := .bool true) rfl (by kernel_rfl) (by kernel_rfl) (by kernel_rfl) (fun _ _ _ h => h) (.inl ⟨by rfl, fun W1 h1 => by subst h1; go_simp⟩) hW ?_
        try simp only [Act.put, List.setIfInBounds_toArray, List.set_cons_zero, List.set_cons_succ]
        refine wpAnyH_take (i := 5) (oi := ⟨some 32, _, _, _, _, _⟩) (v := .slice (some ⟨b0, off0, none⟩) n c) rfl (by kernel_rfl) (by kernel_rfl) (by kernel_rfl) (fun _ _ _ h => h) (.inl ⟨by rfl, fun W1 h1 => by subst h1; go_simp⟩) hW ?_
        try simp only [Act.put, List.setIfInBounds_toArray, List.set_cons_zero, List.set_cons_succ]
        refine wpAnyH_take (i := 6) (oi := ⟨some 33, _, _, _, _, _⟩) (v := .int .i64 (b : Int)) rfl (by kernel_rfl) (by kernel_rfl) (by kernel_rfl) (fun _ _ _ h => h) (.inl ⟨by rfl, fun W1 h1 => by subst h1; go_simp⟩) hW ?_
        try simp only [Act.put, List.setIfInBounds_toArray, List.set_cons_zero, List.set_cons_succ]
        refine wpAnyH_take (i := 7) (oi := ⟨some 34, _, _, _, _, _⟩) (v := .pointer (some ⟨b0, off0 + b * 2, none⟩)) rfl (by kernel_rfl) (by kernel_rfl) (by kernel_rfl) (fun _ _ _ h => h) (.inl ⟨by rfl, fun W1 h1 => by subst h1; go_simp⟩) hW ?_
        try simp only [Act.put, List.setIfInBounds_toArray, List.set_cons_zero, List.set_cons_succ]
        refine wpAnyH_take (i := 8) (oi := ⟨some 35, _, _, _, _, _⟩) (v := .pointer (some ⟨b0, off0 + b * 2, none⟩)) rfl (by kernel_rfl) (by kernel_rfl) (by kernel_rfl) (fun _ _ _ h => h) (.inl ⟨by rfl, fun W1 h1 => by subst h1; go_simp⟩) hW ?_
        try simp only [Act.put, List.setIfInBounds_toArray, List.set_cons_zero, List.set_cons_succ]
        refine wpAnyH_take (i := 9) (oi := ⟨some 36, _, _, _, _, _⟩) (v := .int .i64 u) rfl (by kernel_rfl) (by kernel_rfl) (by kernel_rfl) (fun _ _ _ h => h) (.inl ⟨by rfl, fun W1 h1 => by subst h1; go_simp⟩) hW ?_
        try simp only [Act.put, List.setIfInBounds_toArray, List.set_cons_zero, List.set_cons_succ]
        refine wpAnyH_take (i := 10) (oi := ⟨some 37, _, _, _, _, _⟩) (v := .pointer (some ⟨w.heap.size, 1, none⟩)) rfl (by kernel_rfl) (by kernel_rfl) (by kernel_rfl) (fun _ _ _ h => h) (.inl ⟨by rfl, fun W1 h1 => by subst h1; go_simp⟩) hW ?_
        try simp only [Act.put, List.setIfInBounds_toArray, List.set_cons_zero, List.set_cons_succ]
        refine wpAnyH_take (i := 11) (oi := ⟨some 38, _, _, _, _, _⟩) (v := .int .i64 y) rfl (by kernel_rfl) (by kernel_rfl) (by kernel_rfl) (fun _ _ _ h => h) (.inl ⟨by rfl, fun W1 h1 => by subst h1; go_simp⟩) hW ?_
        try simp only [Act.put, List.setIfInBounds_toArray, List.set_cons_zero, List.set_cons_succ]
        refine wpAnyH_take (i := 12) (oi := ⟨some 39, _, _, _, _, _⟩) (v := .bool true) rfl (by kernel_rfl) (by kernel_rfl) (by kernel_rfl) (fun _ _ _ h => h) (.inl ⟨by rfl, fun W1 h1 => by subst h1; go_simp⟩) hW ?_
        try simp only [Act.put, List.setIfInBounds_toArray, List.set_cons_zero, List.set_cons_succ]
        refine wpAnyH_take (i := 13) (oi := ⟨some 40, _, _, _, _, _⟩) (v := .bool true) rfl (by kernel_rfl) (by kernel_rfl) (by kernel_rfl) (fun _ _ _ h => h) (.inl ⟨by rfl, fun W1 h1 => by subst h1; go_simp⟩) hW ?_
        try simp only [Act.put, List.setIfInBounds_toArray, List.set_cons_zero, List.set_cons_succ]
        refine wpAnyH_done (by kernel_rfl) ?_ _
        have HBW := Aside0.mk (below_then HBD.out HBD.out.size (below_alloc (Below.refl Wd.heap.size Wd) (.cells #[.int .i64 u, .int .i64 v] 136)))
        have HGW := Aside0.mk (blk_alloc HGD.out (.cells #[.int .i64 u, .int .i64 v] 136))
        have HG8 := Aside0.mk (blk_new Wd (.cells #[.int .i64 u, .int .i64 v] 136))
        have HRW2 := Aside0.mk (Kd.R_alloc (Kd.R_mono (Kd.R_bound HRD.out) (ok' := fun k => k ≠ Wd.heap.size) (fun k hk => by have := hk.2.2.1; omega)) (.cells #[.int .i64 u, .int .i64 v] 136))
        have y0 : (Wd.alloc (.cells #[.int .i64 u, .int .i64 v] 136)).cell? ⟨w.heap.size, 0, none⟩ = some (.int .i64 x) := by rw [cell_of_row _ _ 0 _ 136 (0, 0) HGW.out]; rfl
        have y1 : (Wd.alloc (.cells #[.int .i64 u, .int .i64 v] 136)).cell? ⟨w.heap.size, 1, none⟩ = some (.int .i64 y) := by rw [cell_of_row _ _ 1 _ 136 (0, 0) HGW.out]; rfl
        have z0 : (Wd.alloc (.cells #[.int .i64 u, .int .i64 v] 136)).cell? ⟨Wd.heap.size, 0, none⟩ = some (.int .i64 u) := by rw [cell_of_row _ _ 0 _ 136 (0, 0) HG8.out]; rfl
        have z1 : (Wd.alloc (.cells #[.int .i64 u, .int .i64 v] 136)).cell? ⟨Wd.heap.size, 1, none⟩ = some (.int .i64 v) := by rw [cell_of_row _ _ 1 _ 136 (0, 0) HG8.out]; rfl
        clear q1
        have HIDX := Aside0.mk (fun (k : Nat) (hk : k < 2) (W : World) => index77 u x y v k hk W)
        have HPS := Aside0.mk (fun (k : Nat) (hk : k < 2) => pcs_succ (u, v) (x, y) (by simp only; omega) (by simp only; omega) (by simp only; omega) (by simp only; omega) (by simp only; omega) (by simp only; omega) k hk)
        have HPL := Aside0.mk (pcs_len (u, v) (x, y))
        have HPG := Aside0.mk (fun k => pcN_ge (u, v) (x, y) (by simp only; omega) k)
        have HLEN := Aside0.mk (show L.length ≤ 20000 by
          have := HRL.out
          rw [HE.out, List.length_append] at this
          omega)
        obtain ⟨g8, hg8⟩ : ∃ g8, g8 = Wd.heap.size := ⟨_, rfl⟩
        have hg8w : w.heap.size < g8 := by rw [hg8]; exact blk_lt HGD.out
        rw [← hg8] at HG8 HRW2 z0 z1
        have HE8 := Aside0.mk hg8
        go_wp2_with fail
        rw [← HE8.out]
        clear hg8 y0 y1 z0 z1
        go_loopw [7, 58] (fun v7 v58 wr => ∃ (k n7 c7 : Nat) (A7 : Option Addr), v58 = .int .i64 (k : Int) ∧ v7 = .slice A7 n7 c7 ∧ k ≤ 2 ∧ Aside0 (Kd.R kS 136 wr (w.heap.size + 1) (fun k => k ≠ g8) (.slice A7 n7 c7) (L ++ pcs (u, v) (x, y) k)) ∧ Aside0 (wr.heap[w.heap.size]? = some (.cells #[.int .i64 x, .int .i64 y] 136 (0, 0))) ∧ Aside0 (wr.heap[g8]? = some (.cells #[.int .i64 u, .int .i64 v] 136 (0, 0))) ∧ Aside0 (Below w.heap.size w wr)) (fun _ v _ => 2 - (intOf v).toNat)
        case atStart => exact ⟨0, n7, c7, A7, rfl, rfl, by omega, ⟨by rw [pcs, List.append_nil]; exact HRW2.out⟩, HGW, HG8, HBW⟩
        case round =>
          clear HGW HG8 HBW HRW2 HRD HBD HGD HG HB HRW
          obtain ⟨k, n9, c9, A9, rfl, rfl, hk2, HRK, HGK, HG8K, HBK⟩ := hrel
          by_cases hk : k < 2
          · have dk : decide ((k : Int) < 2) = true := decide_eq_true (by omega)
            have hps := HPS.out k hk
            have hidx := HIDX.out k hk
            have hpg := HPG.out k
            obtain ⟨p, hp⟩ : ∃ p, p = pcN (u, v) (x, y) k := ⟨_, rfl⟩
            rw [← hp] at hps hidx hpg
            obtain ⟨e0, e1⟩ := p
            simp only at hidx hpg
            have HPK := Aside0.mk hps
            obtain ⟨g10, hg10⟩ : ∃ g10, g10 = wr.heap.size := ⟨_, rfl⟩
            have hb1 := below_then HBK.out HBK.out.size (below_alloc (Below.refl wr.heap.size wr) (.cells #[.int .i64 e0, .int .i64 e1] 136))
            have HG1 := Aside0.mk (blk_alloc HGK.out (.cells #[.int .i64 e0, .int .i64 e1] 136))
            have HG81 := Aside0.mk (blk_alloc HG8K.out (.cells #[.int .i64 e0, .int .i64 e1] 136))
            have HG10 := Aside0.mk (blk_new wr (.cells #[.int .i64 e0, .int .i64 e1] 136))
            have HR1 := Aside0.mk (Kd.R_alloc HRK.out (.cells #[.int .i64 e0, .int .i64 e1] 136))
            have HB1 := Aside0.mk hb1
            rw [← hg10] at HG10
            have HE10 := Aside0.mk hg10
            clear hp hps hb1 hg10 HGK HG8K HBK HRK
            go_wp2_with fail
            rw [← HE10.out]
            generalize hW1 : wr.alloc (.cells #[.int .i64 e0, .int .i64 e1] 136) = W1 at *
            clear hW1
            refine (right_calls (e0, e1) W1).mono ?_
            rintro e W2 ⟨he, hb2⟩
            have HB2 := Aside0.mk (below_then HB1.out HB1.out.size hb2)
            have HG2 := Aside0.mk (blk_below HG1.out hb2)
            have HG82 := Aside0.mk (blk_below HG81.out hb2)
            have HG102 := Aside0.mk (blk_below HG10.out hb2)
            have HR2 := Aside0.mk (Kd.R_below HR1.out hb2)
            have z0 : W2.cell? ⟨g8, 0, none⟩ = some (.int .i64 u) := by rw [cell_of_row _ _ 0 _ 136 (0, 0) HG82.out]; rfl
            have t0 : W2.cell? ⟨g10, 0, none⟩ = some (.int .i64 e0) := by rw [cell_of_row _ _ 0 _ 136 (0, 0) HG102.out]; rfl
            have t1 : W2.cell? ⟨g10, 1, none⟩ = some (.int .i64 e1) := by rw [cell_of_row _ _ 1 _ 136 (0, 0) HG102.out]; rfl
            have dg : decide (u ≤ e0) = true := decide_eq_true hpg
            have dg2 : decide (e0 ≥ u) = true := decide_eq_true hpg
            clear hb2 HB1 HG1 HG81 HG10 HR1 HE10
            by_cases hok2 : okS (e0, e1)
            · rw [decide_eq_true hok2] at he
              subst he
              have HPK2 := Aside0.mk (show L ++ pcs (u, v) (x, y) (k + 1) = L ++ pcs (u, v) (x, y) k ++ [(e0, e1)] by rw [HPK.out, if_pos hok2, List.append_assoc])
              go_wp2_with (at_builtin; refine append_keepS (base := w.heap.size + 1) (g := g8) rfl (.tmp 70) (.tmp 72) rfl (.slice A9 n9 c9) (L ++ pcs (u, v) (x, y) k) [(e0, e1)] (some ⟨W2.heap.size, 0, none⟩) 1 1 rfl rfl (Kd.R_alloc HR2.out _) (C_oneS W2 e0 e1) (by have := blk_lt HG2.out; simp only [World.size_alloc]; omega) (by have := blk_lt HG82.out; simp only [World.size_alloc]; omega) (by rw [List.length_append]; have := HLEN.out; have := HPL.out k; omega) ?_; intro A4 n4 c4 w4 hn4 h4 hb4 hk4; have H4 := Aside0.mk h4; have HB4 := Aside0.mk (And.intro hb4 hk4); clear hn4 h4 hb4 hk4)
              have hwk : IntKind.i64.wrap ((k : Int) + 1) = ((k + 1 : Nat) : Int) := by rw [i64_small (by omega) (by omega)]; omega
              have HG5 := (HB4.out.1.block w.heap.size (by omega)).trans (blk_alloc HG2.out (.cells #[.int .i64 e0, .int .i64 e1] 136))
              have HG85 := HB4.out.2 _ (blk_alloc HG82.out (.cells #[.int .i64 e0, .int .i64 e1] 136))
              go_roundw
              case rel =>
                refine ⟨k + 1, n4, c4, A4, by go_num, rfl, by omega, ⟨?_⟩, ⟨HG5⟩, ⟨HG85⟩, ⟨?_⟩⟩
                · rw [HPK2.out]; exact H4.out
                · exact (below_then HB2.out HB2.out.size (below_alloc (Below.refl W2.heap.size W2) (.cells #[.int .i64 e0, .int .i64 e1] 136))).trans (HB4.out.1.mono (by omega))
              case measure => simp [intOf]; omega
            · rw [decide_eq_false hok2] at he
              subst he
              have HPK2 := Aside0.mk (show L ++ pcs (u, v) (x, y) (k + 1) = L ++ pcs (u, v) (x, y) k by rw [HPK.out, if_neg hok2, List.append_nil])
              have hwk : IntKind.i64.wrap ((k : Int) + 1) = ((k + 1 : Nat) : Int) := by rw [i64_small (by omega) (by omega)]; omega
              go_wp2
              go_roundw
              case rel =>
                refine ⟨k + 1, n9, c9, A9, by go_num, rfl, by omega, ⟨?_⟩, HG2, HG82, HB2⟩
                rw [HPK2.out]; exact HR2.out
              case measure => simp [intOf]; omega
          · have dk : decide ((k : Int) < 2) = false := decide_eq_false (by omega)
            obtain rfl : k = 2 := by omega
            have hwb : IntKind.i64.wrap ((b : Int) + 1) = ((b + 1 : Nat) : Int) := by rw [i64_small (by omega) (by omega)]; omega
            have HREM := HIN.out hin
            go_wp2
            go_roundw
            case rel =>
              refine ⟨b + 1, n9, c9, A9, L ++ pcs (u, v) (x, y) 2, by go_num, rfl, by omega, by omega, ⟨?_⟩, ⟨Kd.R_mono HRK.out (fun _ _ => trivial)⟩, HGK, HBK⟩
              rw [HE.out, HREM, List.append_assoc]
              rfl
            case measure => simp [intOf]; omega
      · have dl : decide ((b : Int) < (n : Int)) = true := decide_eq_true (by omega)
        have d1 : decide (u < y) = false := decide_eq_false hin
        have HF := Aside0.mk (show remS (l.drop b) (x, y) = l.drop b from HOUT.out (by omega))
        go_wp2
        refine wp_region_held_drew (S := fun w' => w' = wr.drew) (by kernel_rfl) rfl (fun hW => ?_)
        generalize hWd : wr.drew = Wd at *
        clear hWd
        refine wpAnyH_take (i := 0) (oi := ⟨some 27, _, _, _, _, _⟩) (v := .int .i64 (b : Int)) rfl (by kernel_rfl) (by kernel_rfl) (by kernel_rfl) (fun _ _ _ h => h) (.inl ⟨by rfl, fun W1 h1 => by subst h1; go_simp⟩) hW ?_
        try simp only [Act.put, List.setIfInBounds_toArray, List.set_cons_zero, List.set_cons_succ]
        refine wpAnyH_take (i := 1) (oi := ⟨some 28, _, _, _, _, _⟩) (v := .slice (some ⟨b0, off0, none⟩) n c) rfl (by kernel_rfl) (by kernel_rfl) (by kernel_rfl) (fun _ _ _ h => h) (.inl ⟨by rfl, fun W1 h1 => by subst h1; go_simp⟩) hW ?_
        try simp only [Act.put, List.setIfInBounds_toArray, List.set_cons_zero, List.set_cons_succ]
        refine wpAnyH_take (i := 2) (oi := ⟨some 29, _, _, _, _, _⟩) (v := .int .i64 (n : Int)) rfl (by kernel_rfl) (by kernel_rfl) (by kernel_rfl) (fun _ _ _ h => h) (.inl ⟨by rfl, fun W1 h1 => by subst h1; go_simp⟩) hW ?_
        try simp only [Act.put, List.setIfInBounds_toArray, List.set_cons_zero, List.set_cons_succ]
        refine wpAnyH_take (i := 3) (oi := ⟨some 30, _, _, _, _, _⟩) (v := .bool true) rfl (by kernel_rfl) (by kernel_rfl) (by kernel_rfl) (fun _ _ _ h => h) (.inl ⟨by rfl, fun W1 h1 => by subst h1; go_simp⟩) hW ?_
        try simp only [Act.put, List.setIfInBounds_toArray, List.set_cons_zero, List.set_cons_succ]
        refine wpAnyH_take (i := 4) (oi := ⟨some 31, _, _, _, _, _⟩) (v := .bool true) rfl (by kernel_rfl) (by kernel_rfl) (by kernel_rfl) (fun _ _ _ h => h) (.inl ⟨by rfl, fun W1 h1 => by subst h1; go_simp⟩) hW ?_
        try simp only [Act.put, List.setIfInBounds_toArray, List.set_cons_zero, List.set_cons_succ]
        refine wpAnyH_take (i := 5) (oi := ⟨some 32, _, _, _, _, _⟩) (v := .slice (some ⟨b0, off0, none⟩) n c) rfl (by kernel_rfl) (by kernel_rfl) (by kernel_rfl) (fun _ _ _ h => h) (.inl ⟨by rfl, fun W1 h1 => by subst h1; go_simp⟩) hW ?_
        try simp only [Act.put, List.setIfInBounds_toArray, List.set_cons_zero, List.set_cons_succ]
        refine wpAnyH_take (i := 6) (oi := ⟨some 33, _, _, _, _, _⟩) (v := .int .i64 (b : Int)) rfl (by kernel_rfl) (by kernel_rfl) (by kernel_rfl) (fun _ _ _ h => h) (.inl ⟨by rfl, fun W1 h1 => by subst h1; go_simp⟩) hW ?_
        try simp only [Act.put, List.setIfInBounds_toArray, List.set_cons_zero, List.set_cons_succ]
        refine wpAnyH_take (i := 7) (oi := ⟨some 34, _, _, _, _, _⟩) (v := .pointer (some ⟨b0, off0 + b * 2, none⟩)) rfl (by kernel_rfl) (by kernel_rfl) (by kernel_rfl) (fun _ _ _ h => h) (.inl ⟨by rfl, fun W1 h1 => by subst h1; go_simp⟩) hW ?_
        try simp only [Act.put, List.setIfInBounds_toArray, List.set_cons_zero, List.set_cons_succ]
        refine wpAnyH_take (i := 8) (oi := ⟨some 35, _, _, _, _, _⟩) (v := .pointer (some ⟨b0, off0 + b * 2, none⟩)) rfl (by kernel_rfl) (by kernel_rfl) (by kernel_rfl) (fun _ _ _ h => h) (.inl ⟨by rfl, fun W1 h1 => by subst h1; go_simp⟩) hW ?_
        try simp only [Act.put, List.setIfInBounds_toArray, List.set_cons_zero, List.set_cons_succ]
        refine wpAnyH_take (i := 9) (oi := ⟨some 36, _, _, _, _, _⟩) (v := .int .i64 u) rfl (by kernel_rfl) (by kernel_rfl) (by kernel_rfl) (fun _ _ _ h => h) (.inl ⟨by rfl, fun W1 h1 => by subst h1; go_simp⟩) hW ?_
        try simp only [Act.put, List.setIfInBounds_toArray, List.set_cons_zero, List.set_cons_succ]
        refine wpAnyH_take (i := 10) (oi := ⟨some 37, _, _, _, _, _⟩) (v := .pointer (some ⟨w.heap.size, 1, none⟩)) rfl (by kernel_rfl) (by kernel_rfl) (by kernel_rfl) (fun _ _ _ h => h) (.inl ⟨by rfl, fun W1 h1 => by subst h1; go_simp⟩) hW ?_
        try simp only [Act.put, List.setIfInBounds_toArray, List.set_cons_zero, List.set_cons_succ]
        refine wpAnyH_take (i := 11) (oi := ⟨some 38, _, _, _, _, _⟩) (v := .int .i64 y) rfl (by kernel_rfl) (by kernel_rfl) (by kernel_rfl) (fun _ _ _ h => h) (.inl ⟨by rfl, fun W1 h1 => by subst h1; go_simp⟩) hW ?_
        try simp only [Act.put, List.setIfInBounds_toArray, List.set_cons_zero, List.set_cons_succ]
        refine wpAnyH_take (i := 12) (oi := ⟨some 39, _, _, _, _, _⟩) (v := .bool false) rfl (by kernel_rfl) (by kernel_rfl) (by kernel_rfl) (fun _ _ _ h => h) (.inl ⟨by rfl, fun W1 h1 => by subst h1; go_simp⟩) hW ?_
        try simp only [Act.put, List.setIfInBounds_toArray, List.set_cons_zero, List.set_cons_succ]
        refine wpAnyH_take (i := 13) (oi := ⟨some 40, _, _, _, _, _⟩) (v := .bool false) rfl (by kernel_rfl) (by kernel_rfl) (by kernel_rfl) (fun _ _ _ h => h) (.inl ⟨by rfl, fun W1 h1 => by subst h1; go_simp⟩) hW ?_
        try simp only [Act.put, List.setIfInBounds_toArray, List.set_cons_zero, List.set_cons_succ]
        refine wpAnyH_done (by kernel_rfl) ?_ _
        clear x0 x1
        have HB9 := Aside0.mk (below_then HBD.out HBD.out.size (Below.refl Wd.heap.size Wd))
        obtain ⟨hn7, hn7c, hc7⟩ := Kd.R_reads' HRD.out
        have HC7 := Aside0.mk (show Kd.C kS Wd A7 n7 L by rw [hn7]; exact hc7)
        have hL7 : n7 ≤ 100000 := by
          have := HRL.out
          rw [HE.out, List.length_append] at this
          omega
        clear hn7 hn7c hc7
        go_wp2_with fail
        refine (replace_calls (some ⟨b0, off0, none⟩) c n l a b A7 c7 n7 L Wd (Kd.C_below HR.out HB9.out) hnc (by omega) HC7.out hL7 hal hbn).mono ?_
        rintro e w9 ⟨vv, rfl, h9, hb9⟩
        obtain ⟨A9, c9, e9⟩ := Kd.R_slice h9
        generalize hn9 : (l.take a ++ L ++ l.drop b).length = n9 at e9
        subst e9
        have HL9 := Aside0.mk (show l.take a ++ L ++ l.drop b = remS l (x, y) by rw [HA.out, HE.out, HF.out, List.append_assoc])
        have H9 := Aside0.mk (Kd.R_lower h9 HB9.out.size)
        have HB8 := Aside0.mk (below_then HB9.out HB9.out.size hb9)
        clear h9 hb9 hn9 q1
        go_wp2
        rw [HP.out, ← HL9.out]
        exact ⟨_, rfl, H9.out, HB8.out⟩
    · have dl : decide ((b : Int) < (n : Int)) = false := decide_eq_false (by omega)
      have HF := Aside0.mk (show remS (l.drop b) (x, y) = l.drop b from remS_out HV.out (x, y) hxy1 b (fun h => by have := HL.out; omega))
      go_wp2
      refine wp_region_held_drew (S := fun w' => w' = wr.drew) (by kernel_rfl) rfl (fun hW => ?_)
      generalize hWd : wr.drew = Wd at *
      clear hWd
      refine wpAnyH_take (i := 0) (oi := ⟨some 27, _, _, _, _, _⟩) (v := .int .i64 (b : Int)) rfl (by kernel_rfl) (by kernel_rfl) (by kernel_rfl) (fun _ _ _ h => h) (.inl ⟨by rfl, fun W1 h1 => by subst h1; go_simp⟩) hW ?_
      try simp only [Act.put, List.setIfInBounds_toArray, List.set_cons_zero, List.set_cons_succ]
      refine wpAnyH_take (i := 1) (oi := ⟨some 28, _, _, _, _, _⟩) (v := .slice A n c) rfl (by kernel_rfl) (by kernel_rfl) (by kernel_rfl) (fun _ _ _ h => h) (.inl ⟨by rfl, fun W1 h1 => by subst h1; go_simp⟩) hW ?_
      try simp only [Act.put, List.setIfInBounds_toArray, List.set_cons_zero, List.set_cons_succ]
      refine wpAnyH_take (i := 2) (oi := ⟨some 29, _, _, _, _, _⟩) (v := .int .i64 (n : Int)) rfl (by kernel_rfl) (by kernel_rfl) (by kernel_rfl) (fun _ _ _ h => h) (.inl ⟨by rfl, fun W1 h1 => by subst h1; go_simp⟩) hW ?_
      try simp only [Act.put, List.setIfInBounds_toArray, List.set_cons_zero, List.set_cons_succ]
      refine wpAnyH_take (i := 3) (oi := ⟨some 30, _, _, _, _, _⟩) (v := .bool false) rfl (by kernel_rfl) (by kernel_rfl) (by kernel_rfl) (fun _ _ _ h => h) (.inl ⟨by rfl, fun W1 h1 => by subst h1; go_simp⟩) hW ?_
      try simp only [Act.put, List.setIfInBounds_toArray, List.set_cons_zero, List.set_cons_succ]
      refine wpAnyH_take (i := 4) (oi := ⟨some 31, _, _, _, _, _⟩) (v := .bool false) rfl (by kernel_rfl) (by kernel_rfl) (by kernel_rfl) (fun _ _ _ h => h) (.inl ⟨by rfl, fun W1 h1 => by subst h1; go_simp⟩) hW ?_
      try simp only [Act.put, List.setIfInBounds_toArray, List.set_cons_zero, List.set_cons_succ]
      refine wpAnyH_take (i := 5) (oi := ⟨some 32, _, _, _, _, _⟩) (v := undef) rfl (by kernel_rfl) (by kernel_rfl) (by kernel_rfl) (fun _ _ _ h => h) (.inr ⟨by rfl, rfl⟩) hW ?_
      try simp only [Act.put, List.setIfInBounds_toArray, List.set_cons_zero, List.set_cons_succ]
      refine wpAnyH_take (i := 6) (oi := ⟨some 33, _, _, _, _, _⟩) (v := undef) rfl (by kernel_rfl) (by kernel_rfl) (by kernel_rfl) (fun _ _ _ h => h) (.inr ⟨by rfl, rfl⟩) hW ?_
      try simp only [Act.put, List.setIfInBounds_toArray, List.set_cons_zero, List.set_cons_succ]
      refine wpAnyH_take (i := 7) (oi := ⟨some 34, _, _, _, _, _⟩) (v := undef) rfl (by kernel_rfl) (by kernel_rfl) (by kernel_rfl) (fun _ _ _ h => h) (.inr ⟨by rfl, rfl⟩) hW ?_
      try simp only [Act.put, List.setIfInBounds_toArray, List.set_cons_zero, List.set_cons_succ]
      refine wpAnyH_take (i := 8) (oi := ⟨some 35, _, _, _, _, _⟩) (v := undef) rfl (by kernel_rfl) (by kernel_rfl) (by kernel_rfl) (fun _ _ _ h => h) (.inr ⟨by rfl, rfl⟩) hW ?_
      try simp only [Act.put, List.setIfInBounds_toArray, List.set_cons_zero, List.set_cons_succ]
      refine wpAnyH_take (i := 9) (oi := ⟨some 36, _, _, _, _, _⟩) (v := undef) rfl (by kernel_rfl) (by kernel_rfl) (by kernel_rfl) (fun _ _ _ h => h) (.inr ⟨by rfl, rfl⟩) hW ?_
      try simp only [Act.put, List.setIfInBounds_toArray, List.set_cons_zero, List.set_cons_succ]
      refine wpAnyH_take (i := 10) (oi := ⟨some 37, _, _, _, _, _⟩) (v := undef) rfl (by kernel_rfl) (by kernel_rfl) (by kernel_rfl) (fun _ _ _ h => h) (.inr ⟨by rfl, rfl⟩) hW ?_
      try simp only [Act.put, List.setIfInBounds_toArray, List.set_cons_zero, List.set_cons_succ]
      refine wpAnyH_take (i := 11) (oi := ⟨some 38, _, _, _, _, _⟩) (v := undef) rfl (by kernel_rfl) (by kernel_rfl) (by kernel_rfl) (fun _ _ _ h => h) (.inr ⟨by rfl, rfl⟩) hW ?_
      try simp only [Act.put, List.setIfInBounds_toArray, List.set_cons_zero, List.set_cons_succ]
      refine wpAnyH_take (i := 12) (oi := ⟨some 39, _, _, _, _, _⟩) (v := undef) rfl (by kernel_rfl) (by kernel_rfl) (by kernel_rfl) (fun _ _ _ h => h) (.inr ⟨by rfl, rfl⟩) hW ?_
      try simp only [Act.put, List.setIfInBounds_toArray, List.set_cons_zero, List.set_cons_succ]
      refine wpAnyH_take (i := 13) (oi := ⟨some 40, _, _, _, _, _⟩) (v := .bool false) rfl (by kernel_rfl) (by kernel_rfl) (by kernel_rfl) (fun _ _ _ h => h) (.inl ⟨by rfl, fun W1 h1 => by subst h1; go_simp⟩) hW ?_
      try simp only [Act.put, List.setIfInBounds_toArray, List.set_cons_zero, List.set_cons_succ]
      refine wpAnyH_done (by kernel_rfl) ?_ _
      have HB9 := Aside0.mk (below_then HBD.out HBD.out.size (Below.refl Wd.heap.size Wd))
      obtain ⟨hn7, hn7c, hc7⟩ := Kd.R_reads' HRD.out
      have HC7 := Aside0.mk (show Kd.C kS Wd A7 n7 L by rw [hn7]; exact hc7)
      have hL7 : n7 ≤ 100000 := by
        have := HRL.out
        rw [HE.out, List.length_append] at this
        omega
      clear hn7 hn7c hc7
      go_wp2_with fail
      refine (replace_calls A c n l a b A7 c7 n7 L Wd (Kd.C_below HR.out HB9.out) hnc (by omega) HC7.out hL7 hal hbn).mono ?_
      rintro e w9 ⟨vv, rfl, h9, hb9⟩
      obtain ⟨A9, c9, e9⟩ := Kd.R_slice h9
      generalize hn9 : (l.take a ++ L ++ l.drop b).length = n9 at e9
      subst e9
      have HL9 := Aside0.mk (show l.take a ++ L ++ l.drop b = remS l (x, y) by rw [HA.out, HE.out, HF.out, List.append_assoc])
      have H9 := Aside0.mk (Kd.R_lower h9 HB9.out.size)
      have HB8 := Aside0.mk (below_then HB9.out HB9.out.size hb9)
      clear h9 hb9 hn9 q1
      go_wp2
      rw [HP.out, ← HL9.out]
      exact ⟨_, rfl, H9.out, HB8.out⟩
end Go.Proofs.YtchhdafgmifhdaaGreat.ExtG
namespace Go.Proofs.YtchhdafgmifhdaaGreat.DskA
open Go.RowKit Go.Proofs.YtchhdafgmifhdaaGreat.B8 Go.Proofs.YtchhdafgmifhdaaGreat.Agg Go.Proofs.YtchhdafgmifhdaaGreat.CodL Go.Proofs.YtchhdafgmifhdaaGreat.CodA Go.Proofs.YtchhdafgmifhdaaGreat.CodB Go.Proofs.YtchhdafgmifhdaaGreat.CrcL Go.Proofs.YtchhdafgmifhdaaGreat.CrcA Go.Proofs.YtchhdafgmifhdaaGreat.CrcB Go.Proofs.YtchhdafgmifhdaaGreat.PVerifyForms Go.Proofs.YtchhdafgmifhdaaGreatW.PrintWords Go.Proofs.YtchhdafgmifhdaaGreatW.PrintLast Go.Proofs.YtchhdafgmifhdaaGreatW.PrintMore Go.Proofs.YtchhdafgmifhdaaGreat.ExtL Go.Proofs.YtchhdafgmifhdaaGreat.ExtA Go.Proofs.YtchhdafgmifhdaaGreat.ExtB Go.Proofs.YtchhdafgmifhdaaGreat.ExtC Go.Proofs.YtchhdafgmifhdaaGreat.ExtD
set_option linter.unusedVariables false
set_option linter.unusedSimpArgs false
/-- The block of a disk that has no bound set, and is not broken. -/
def DB (W : World) (d n m : Nat) : Prop := ∃ (A : Addr) (c : Nat), W.heap[d]? = some (.cells #[.slice (some A) n c, .map (some m), .bool false, .int .i64 0, .bool false] 130 (0, 0))
theorem DB.below {W W2 : World} {d n m : Nat} (h : DB W d n m) (hb : Below W.heap.size W W2) : DB W2 d n m := by
  obtain ⟨A, c, h⟩ := h
  exact ⟨A, c, blk_below h hb⟩
set_option maxRecDepth 100000 in
set_option maxHeartbeats 2000000 in
theorem none39 (d n m : Nat) (w : World) (hd : DB w d n m) : Calls Tryz.prog 99 #[.pointer (some ⟨d, 0, none⟩)] w (fun e w' => e = .returned (.bool false) ∧ Below w.heap.size w w') := by
  obtain ⟨A, c, hd⟩ := hd
  have q0 : w.cell? ⟨d, 0, none⟩ = some (.slice (some A) n c) := by rw [cell_of_row _ _ 0 _ 130 (0, 0) hd]; rfl
  obtain ⟨P, hP⟩ : ∃ P : Ending → World → Prop, P = fun e w' => e = .returned (.bool false) ∧ Below w.heap.size w w' := ⟨_, rfl⟩
  rw [← hP]
  have HP := Aside0.mk hP
  clear hP hd
  go_enter Tryz.func99, Tryz.ntmps99
  go_wp2_with fail
  rename_i K2 h2
  refine h2 _ _ ?_
  simp only [Act.put, List.setIfInBounds_toArray, List.set_cons_zero, List.set_cons_succ]
  clear h2
  go_wp2
  rw [HP.out]
  exact ⟨rfl, Below.refl _ _⟩
set_option maxRecDepth 100000 in
set_option maxHeartbeats 2000000 in
theorem len23 (d n m : Nat) (w : World) (hd : DB w d n m) : Calls Tryz.prog 79 #[.pointer (some ⟨d, 0, none⟩)] w (fun e w' => e = .returned (.int .i64 (n : Int)) ∧ Below w.heap.size w w') := by
  have HD := Aside0.mk hd
  obtain ⟨P, hP⟩ : ∃ P : Ending → World → Prop, P = fun e w' => e = .returned (.int .i64 (n : Int)) ∧ Below w.heap.size w w' := ⟨_, rfl⟩
  rw [← hP]
  have HP := Aside0.mk hP
  clear hP hd
  go_enter Tryz.func79, Tryz.ntmps79
  go_wp2_with fail
  refine (none39 d n m w HD.out).mono ?_
  rintro e W2 ⟨rfl, hb⟩
  have HB := Aside0.mk hb
  obtain ⟨A, c, hd⟩ := HD.out.below hb
  have q0 : W2.cell? ⟨d, 0, none⟩ = some (.slice (some A) n c) := by rw [cell_of_row _ _ 0 _ 130 (0, 0) hd]; rfl
  clear hd hb
  go_wp2
  rw [HP.out]
  exact ⟨rfl, HB.out⟩
def dskE (n : Nat) (i : Int) : Int := if i < 0 ∨ (n : Int) ≤ i then 2 else 0
set_option maxRecDepth 100000 in
set_option maxHeartbeats 2000000 in
theorem check42 (d n m : Nat) (i : Int) (w : World) (hd : DB w d n m) : Calls Tryz.prog 54 #[.pointer (some ⟨d, 0, none⟩), .int .i64 i] w (fun e w' => e = .returned (.int .i64 (dskE n i)) ∧ Below w.heap.size w w') := by
  have HD := Aside0.mk hd
  obtain ⟨P, hP⟩ : ∃ P : Ending → World → Prop, P = fun e w' => e = .returned (.int .i64 (dskE n i)) ∧ Below w.heap.size w w' := ⟨_, rfl⟩
  rw [← hP]
  have HP := Aside0.mk hP
  clear hP hd
  go_enter Tryz.func54, Tryz.ntmps54
  go_wp2_with fail
  refine (none39 d n m w HD.out).mono ?_
  rintro e W2 ⟨rfl, hb⟩
  have HB := Aside0.mk hb
  obtain ⟨A, c, hd⟩ := HD.out.below hb
  have q0 : W2.cell? ⟨d, 0, none⟩ = some (.slice (some A) n c) := by rw [cell_of_row _ _ 0 _ 130 (0, 0) hd]; rfl
  clear hd hb
  by_cases h0 : i < 0
  · have d0 : decide (i < 0) = true := decide_eq_true h0
    have hE : dskE n i = 2 := if_pos (.inl h0)
    go_wp2
    rw [HP.out, hE]
    exact ⟨rfl, HB.out⟩
  · by_cases h1 : (n : Int) ≤ i
    · have d0 : decide (i < 0) = false := decide_eq_false h0
      have d1 : decide ((n : Int) ≤ i) = true := decide_eq_true h1
      have d1' : decide (i ≥ (n : Int)) = true := decide_eq_true h1
      have hE : dskE n i = 2 := if_pos (.inr h1)
      go_wp2
      rw [HP.out, hE]
      exact ⟨rfl, HB.out⟩
    · have d0 : decide (i < 0) = false := decide_eq_false h0
      have d1 : decide ((n : Int) ≤ i) = false := decide_eq_false h1
      have d1' : decide (i ≥ (n : Int)) = false := decide_eq_false h1
      have hE : dskE n i = 0 := if_neg (by omega)
      go_wp2
      rw [HP.out, hE]
      exact ⟨rfl, HB.out⟩
/-- A store of what stands there. -/
theorem below_still {W : World} {g i t : Nat} {cs : Array Value} {u : Value} (h : W.heap[g]? = some (.cells cs t (0, 0))) (hu : cs[i]? = some u) : Below W.heap.size W (W.setCell ⟨g, i, none⟩ u) :=
  ⟨rfl, rfl, rfl, by simp [World.setCell], fun k hk => by
    by_cases e : k = g
    · subst e
      rw [blk_set h i u, h]
      congr 2
      apply Array.ext_getElem?
      intro j
      rw [Array.getElem?_setIfInBounds]
      by_cases hj : i = j
      · subst hj
        rw [if_pos rfl, hu]
        have : i < cs.size := (Array.getElem?_eq_some_iff.1 hu).1
        rw [if_pos this]
      · rw [if_neg hj]
    · exact Below.heap_setCell W _ u k e⟩
set_option maxRecDepth 100000 in
set_option maxHeartbeats 2000000 in
theorem spend43 (d n m : Nat) (w : World) (hd : DB w d n m) : Calls Tryz.prog 55 #[.pointer (some ⟨d, 0, none⟩)] w (fun e w' => e = .returned (.int .i64 0) ∧ Below w.heap.size w w') := by
  obtain ⟨A, c, hd⟩ := hd
  have HD := Aside0.mk hd
  have q4 : w.cell? ⟨d, 4, none⟩ = some (.bool false) := by rw [cell_of_row _ _ 4 _ 130 (0, 0) hd]; rfl
  have q2 : w.cell? ⟨d, 2, none⟩ = some (.bool false) := by rw [cell_of_row _ _ 2 _ 130 (0, 0) hd]; rfl
  have f4 : w.frozen? ⟨d, 4, none⟩ = false := frozen_of_row _ _ 4 _ 130 hd
  obtain ⟨P, hP⟩ : ∃ P : Ending → World → Prop, P = fun e w' => e = .returned (.int .i64 0) ∧ Below w.heap.size w w' := ⟨_, rfl⟩
  rw [← hP]
  have HP := Aside0.mk hP
  clear hP hd
  go_enter Tryz.func55, Tryz.ntmps55
  go_wp2
  rw [HP.out]
  exact ⟨rfl, below_still HD.out rfl⟩
end Go.Proofs.YtchhdafgmifhdaaGreat.DskA
namespace Go.Proofs.YtchhdafgmifhdaaGreat.DskB
open Go.RowKit Go.Proofs.YtchhdafgmifhdaaGreat.B8 Go.Proofs.YtchhdafgmifhdaaGreat.Agg Go.Proofs.YtchhdafgmifhdaaGreat.CodL Go.Proofs.YtchhdafgmifhdaaGreat.CodA Go.Proofs.YtchhdafgmifhdaaGreat.CodB Go.Proofs.YtchhdafgmifhdaaGreat.CrcL Go.Proofs.YtchhdafgmifhdaaGreat.CrcA Go.Proofs.YtchhdafgmifhdaaGreat.CrcB Go.Proofs.YtchhdafgmifhdaaGreat.PVerifyForms Go.Proofs.YtchhdafgmifhdaaGreatW.PrintWords Go.Proofs.YtchhdafgmifhdaaGreatW.PrintLast Go.Proofs.YtchhdafgmifhdaaGreatW.PrintMore Go.Proofs.YtchhdafgmifhdaaGreat.ExtL Go.Proofs.YtchhdafgmifhdaaGreat.ExtA Go.Proofs.YtchhdafgmifhdaaGreat.ExtB Go.Proofs.YtchhdafgmifhdaaGreat.ExtC Go.Proofs.YtchhdafgmifhdaaGreat.ExtD Go.Proofs.YtchhdafgmifhdaaGreat.DskA
set_option linter.unusedVariables false
set_option linter.unusedSimpArgs false
theorem under59 : Tryz.prog.underlying 127 = some (.slice 125) := by kernel_rfl
theorem under3 : Tryz.prog.underlying 3 = some (.int .i64) := by kernel_rfl
theorem inf80 : (Tryz.prog.info? 125).map (fun i => (i.zero.isSome, i.bytes)) = some (true, 512) := by kernel_rfl
theorem mkmap60 (W : World) : (Instr.makeMap 128 none).run Tryz.prog W = .ok (.map (some W.heap.size)) (W.alloc (.map #[] 0)) := by
  simp [Instr.makeMap, Result.andThen]
/-- A map of int keys. -/
def MI (W : World) (m : Nat) : Prop := ∃ es clock, W.heap[m]? = some (.map es clock) ∧ ∀ x ∈ es.toList, MapKept.IsKey (.int .i64) x.key
theorem MI.below {W W2 : World} {m : Nat} (h : MI W m) (hb : Below W.heap.size W W2) : MI W2 m := by
  obtain ⟨es, c, h, hk⟩ := h
  exact ⟨es, c, blk_below h hb, hk⟩
end Go.Proofs.YtchhdafgmifhdaaGreat.DskB
namespace Go.Proofs.YtchhdafgmifhdaaGreat.ShaA
open Go.RowKit Go.Proofs.YtchhdafgmifhdaaGreat.B8 Go.Proofs.YtchhdafgmifhdaaGreat.Agg Go.Proofs.YtchhdafgmifhdaaGreat.CodL Go.Proofs.YtchhdafgmifhdaaGreat.CodA Go.Proofs.YtchhdafgmifhdaaGreat.CodB Go.Proofs.YtchhdafgmifhdaaGreat.CrcL Go.Proofs.YtchhdafgmifhdaaGreat.CrcA Go.Proofs.YtchhdafgmifhdaaGreat.CrcB Go.Proofs.YtchhdafgmifhdaaGreat.PVerifyForms Go.Proofs.YtchhdafgmifhdaaGreatW.PrintWords Go.Proofs.YtchhdafgmifhdaaGreatW.PrintLast Go.Proofs.YtchhdafgmifhdaaGreatW.PrintMore
set_option linter.unusedVariables false
set_option linter.unusedSimpArgs false
theorem low5 (n : Int) (h0 : 1 ≤ n) (h1 : n ≤ 31) : bits .and .u64 (IntKind.u64.wrap (-n)) 31 = 32 - n := by
  have e : IntKind.u64.wrap (-n) = 18446744073709551616 - n := by rw [IntKind.wrap_u64]; omega
  rw [e]
  have h := bits_mask .u64 64 (by decide) (fun n h0 h1 => by rw [IntKind.wrap_u64]; omega) 5 (by decide) (18446744073709551616 - n) (by omega) (by omega)
  simp at h
  rw [h]
  omega
/-- A word turned so many places to the right. -/
def dn (n : Nat) (x : Int) : Int := bits .or .u32 (x * 2 ^ (32 - n) % 4294967296) (x / 2 ^ n)
theorem rot_calls (x k : Int) (n : Nat) (hk : k = n) (h0 : 1 ≤ n) (h1 : n ≤ 31) (w : World) : Calls Tryz.prog 171 #[.int .u32 x, .int .i64 (-k)] w fun e w' => e = .returned (.int .u32 (dn n x)) ∧ w = w' := by
  have hl := low5 k (by omega) (by omega)
  obtain ⟨s, hs⟩ : ∃ s : Nat, (s : Int) = 32 - k := ⟨(32 - k).toNat, by omega⟩
  rw [← hs] at hl
  have hs1 : 1 ≤ s := by omega
  have hs2 : s ≤ 31 := by omega
  have HN := Aside0.mk (show dn n x = bits .or .u32 (x * 2 ^ s % 4294967296) (x / 2 ^ (32 - s)) by
    unfold dn
    rw [show 32 - n = s by omega, show 32 - s = n by omega])
  clear hs hk h0 h1
  obtain ⟨P, hP⟩ : ∃ P : Ending → World → Prop, P = (fun e w' => e = .returned (.int .u32 (dn n x)) ∧ w = w') := ⟨_, rfl⟩
  rw [← hP]
  have HP := Aside0.mk hP
  clear hP
  go_enter Tryz.func171, Tryz.ntmps171
  go_wp2
  rw [HP.out, HN.out]
  exact ⟨rfl, rfl⟩
theorem down_calls (x k : Int) (n : Nat) (hk : k = n) (h0 : 1 ≤ n) (h1 : n ≤ 31) (w : World) : Calls Tryz.prog 170 #[.int .u32 x, .int .i64 k] w fun e w' => e = .returned (.int .u32 (dn n x)) ∧ w = w' := by
  have hr := Aside0.mk (rot_calls x k n hk h0 h1 w)
  have hk1 : 1 ≤ k := by omega
  have hk2 : k ≤ 31 := by omega
  obtain ⟨P, hP⟩ : ∃ P : Ending → World → Prop, P = (fun e w' => e = .returned (.int .u32 (dn n x)) ∧ w = w') := ⟨_, rfl⟩
  rw [← hP]
  have HP := Aside0.mk hP
  clear hP hk
  go_enter Tryz.func170, Tryz.ntmps170
  go_wp2_with fail
  refine hr.out.mono ?_
  rintro e w' ⟨rfl, rfl⟩
  go_wp2
  rw [HP.out]
  exact ⟨rfl, rfl⟩
end Go.Proofs.YtchhdafgmifhdaaGreat.ShaA
namespace Go.Proofs.YtchhdafgmifhdaaGreat.ShaB
open Go.RowKit Go.Proofs.YtchhdafgmifhdaaGreat.B8 Go.Proofs.YtchhdafgmifhdaaGreat.Agg Go.Proofs.YtchhdafgmifhdaaGreat.CodL Go.Proofs.YtchhdafgmifhdaaGreat.CodA Go.Proofs.YtchhdafgmifhdaaGreat.CodB Go.Proofs.YtchhdafgmifhdaaGreat.CrcL Go.Proofs.YtchhdafgmifhdaaGreat.CrcA Go.Proofs.YtchhdafgmifhdaaGreat.CrcB Go.Proofs.YtchhdafgmifhdaaGreat.PVerifyForms Go.Proofs.YtchhdafgmifhdaaGreatW.PrintWords Go.Proofs.YtchhdafgmifhdaaGreatW.PrintLast Go.Proofs.YtchhdafgmifhdaaGreatW.PrintMore Go.Proofs.YtchhdafgmifhdaaGreat.ShaA Go.Proofs.YtchhdafgmifhdaaGreat.CrcC
set_option linter.unusedVariables false
set_option linter.unusedSimpArgs false
def xr (a b : Int) : Int := bits .xor .u32 a b
def an (a b : Int) : Int := bits .and .u32 a b
def or_ (a b : Int) : Int := bits .or .u32 a b
def ad (a b : Int) : Int := IntKind.u32.wrap (a + b)
theorem xr_eq (a b : Int) : bits .xor .u32 a b = xr a b := rfl
theorem an_eq (a b : Int) : bits .and .u32 a b = an a b := rfl
theorem or_eq (a b : Int) : bits .or .u32 a b = or_ a b := rfl
theorem ad_eq (a b : Int) : IntKind.u32.wrap (a + b) = ad a b := rfl
theorem ad_eq2 (a b : Int) : (a + b) % 4294967296 = ad a b := by unfold ad; rw [IntKind.wrap_u32]
attribute [local go_sem] xr_eq an_eq or_eq ad_eq ad_eq2
/-- A row of numbers in a block. -/
def arr (k : IntKind) (L : List Int) : Array Value := (L.map (Value.int k)).toArray
theorem arr_at {k : IntKind} {L : List Int} {i : Nat} (h : i < L.length) : (arr k L)[i]? = some (.int k (L.getD i 0)) := by
  unfold arr
  simp [List.getD, List.getElem?_eq_getElem h]
theorem arr_set (k : IntKind) (L : List Int) (i : Nat) (x : Int) : (arr k L).setIfInBounds i (.int k x) = arr k (L.set i x) := by
  unfold arr
  apply Array.toList_inj.1
  simp
theorem arr_size (k : IntKind) (L : List Int) : (arr k L).size = L.length := by simp [arr]
theorem set_arr {W : World} {g t : Nat} {k : IntKind} {L : List Int} (h : W.heap[g]? = some (.cells (arr k L) t (0, 0))) (i : Nat) (x : Int) : (W.setCell ⟨g, i, none⟩ (.int k x)).heap[g]? = some (.cells (arr k (L.set i x)) t (0, 0)) := by
  rw [heap_setCell_same _ _ _ _ _ _ h, arr_set]
abbrev Z97 : Array Value := #[.int .u32 0, .int .u32 0, .int .u32 0, .int .u32 0, .int .u32 0, .int .u32 0, .int .u32 0, .int .u32 0, .int .u32 0, .int .u32 0, .int .u32 0, .int .u32 0, .int .u32 0, .int .u32 0, .int .u32 0, .int .u32 0, .int .u32 0, .int .u32 0, .int .u32 0, .int .u32 0, .int .u32 0, .int .u32 0, .int .u32 0, .int .u32 0, .int .u32 0, .int .u32 0, .int .u32 0, .int .u32 0, .int .u32 0, .int .u32 0, .int .u32 0, .int .u32 0, .int .u32 0, .int .u32 0, .int .u32 0, .int .u32 0, .int .u32 0, .int .u32 0, .int .u32 0, .int .u32 0, .int .u32 0, .int .u32 0, .int .u32 0, .int .u32 0, .int .u32 0, .int .u32 0, .int .u32 0, .int .u32 0, .int .u32 0, .int .u32 0, .int .u32 0, .int .u32 0, .int .u32 0, .int .u32 0, .int .u32 0, .int .u32 0, .int .u32 0, .int .u32 0, .int .u32 0, .int .u32 0, .int .u32 0, .int .u32 0, .int .u32 0, .int .u32 0]
theorem u93 : Tryz.prog.underlying 240 = some (.array 64 5) := by kernel_rfl
theorem u97 : Tryz.prog.underlying 248 = some (.array 64 29) := by kernel_rfl
theorem i93 : (Tryz.prog.info? 240).map (·.size) = some 64 := by kernel_rfl
theorem i97 : (Tryz.prog.info? 248).map (·.size) = some 64 := by kernel_rfl
/-- The first words are the block's bytes. -/
def sp1 (B : List Int) : Nat → List Int
  | 0 => List.replicate 64 0
  | i + 1 => (sp1 B i).set (i / 4) (or_ ((sp1 B i).getD (i / 4) 0 * 256 % 4294967296) (B.getD i 0 % 4294967296))
def spW (L : List Int) (t : Nat) : Int := ad (ad (ad (xr (xr (dn 17 (L.getD (t - 2) 0)) (dn 19 (L.getD (t - 2) 0))) (L.getD (t - 2) 0 / 1024)) (L.getD (t - 7) 0)) (xr (xr (dn 7 (L.getD (t - 15) 0)) (dn 18 (L.getD (t - 15) 0))) (L.getD (t - 15) 0 / 8))) (L.getD (t - 16) 0)
/-- Each other one is of those ahead of it. -/
def sp2 (L : List Int) : Nat → List Int
  | 0 => L
  | i + 1 => (sp2 L i).set (16 + i) (spW (sp2 L i) (16 + i))
def spread (B : List Int) : List Int := sp2 (sp1 B 64) 48
theorem sp1_len (B : List Int) (i : Nat) : (sp1 B i).length = 64 := by
  induction i with
  | zero => rfl
  | succ i ih => rw [sp1, List.length_set, ih]
theorem sp2_len (L : List Int) (i : Nat) : (sp2 L i).length = L.length := by
  induction i with
  | zero => rfl
  | succ i ih => rw [sp2, List.length_set, ih]
theorem spread_len (B : List Int) : (spread B).length = 64 := by rw [spread, sp2_len, sp1_len]
structure SP (w : World) (L : List Int) (W : World) : Prop where
  arr : W.heap[w.heap.size + 1 + 1]? = some (.cells (arr .u32 L) 248 (0, 0))
  res : W.heap[w.heap.size + 1]? = some (.cells Z97 248 (0, 0))
  len : L.length = 64
  below : Below w.heap.size w W
theorem SP.drew {w W : World} {L : List Int} (h : SP w L W) : SP w L W.drew := ⟨blk_below h.arr (below_drew (Below.refl _ _)), blk_below h.res (below_drew (Below.refl _ _)), h.len, below_then h.below h.below.size (below_drew (Below.refl _ _))⟩
theorem SP.set {w W : World} {L : List Int} (h : SP w L W) (i : Nat) (x : Int) : SP w (L.set i x) (W.setCell ⟨w.heap.size + 1 + 1, i, none⟩ (.int .u32 x)) :=
  ⟨set_arr h.arr i x, (Below.heap_setCell W ⟨w.heap.size + 1 + 1, i, none⟩ _ _ (by simp)).trans h.res, by rw [List.length_set]; exact h.len, h.below.setCell (by simp only; omega) _⟩
theorem SP.at_ {w W : World} {L : List Int} (h : SP w L W) {i : Nat} (hi : i < 64) : W.cell? ⟨w.heap.size + 1 + 1, i, none⟩ = some (.int .u32 (L.getD i 0)) ∧ W.frozen? ⟨w.heap.size + 1 + 1, i, none⟩ = false := by
  rw [cell_of_row _ _ i _ 248 (0, 0) h.arr, arr_at (by rw [h.len]; exact hi)]
  exact ⟨rfl, frozen_of_row _ _ i _ 248 h.arr⟩
theorem getD_set0 (L : List Int) (k i : Nat) (x : Int) (h : k ≠ i) : (L.set k x).getD i 0 = L.getD i 0 := by
  rw [List.getD_eq_getElem?_getD, List.getElem?_set_ne h, ← List.getD_eq_getElem?_getD]
theorem arr_one (k : IntKind) (L : List Int) : (arr k L).all (·.oneCell') = true := by
  rw [Array.all_eq_true_iff_forall_mem]
  intro v hv
  unfold arr at hv
  simp only [List.mem_toArray, List.mem_map] at hv
  obtain ⟨x, _, rfl⟩ := hv
  rfl
theorem below_setRow {B : Nat} {w W : World} (h : Below B w W) {g : Nat} (hg : B ≤ g) (cs : Array Value) : Below B w (W.setRow g cs) :=
  h.trans ⟨rfl, rfl, rfl, by simp, fun k hk => setRow_other W g k cs (by omega)⟩
theorem run_index_arr {P : Program} (t e n : Nat) (k : IntKind) (ht : P.underlying t = some (.array n e)) (he : P.underlying e = some (.int k)) (hs : ∀ w, (sizeOf e).run P w = .ok 1 w) (L : List Int) (hL : L.length = n) (i : Nat) (hi : i < n) (W : World) :
    (Instr.index t (.agg (arr k L)) (.int .i64 (i : Int))).run P W = .ok (.int k (L.getD i 0)) W := by
  have hx : (arr k L)[i]? = some (.int k (L.getD i 0)) := arr_at (by omega)
  have h1 : (0 : Int) ≤ (i : Int) ∧ (i : Int) < (n : Int) := by omega
  simp [Instr.index, asIntOf, run_underlying ht, hs, part, isAgg, run_underlying he, hx, h1, hi]
theorem sz5 (w : World) : (sizeOf 5).run Tryz.prog w = .ok 1 w := by kernel_rfl
theorem sz30 (w : World) : (sizeOf 29).run Tryz.prog w = .ok 1 w := by kernel_rfl
theorem index93 (B : List Int) (i : Nat) (hi : i < 64) (hB : B.length = 64) (W : World) : (Instr.index 240 (.agg (arr .u8 B)) (.int .i64 (i : Int))).run Tryz.prog W = .ok (.int .u8 (B.getD i 0)) W :=
  run_index_arr 240 5 64 .u8 u93 Tryz.underlying5 sz5 B hB i hi W
set_option maxRecDepth 100000 in
set_option maxHeartbeats 4000000 in
theorem spread_calls (B : List Int) (hB : B.length = 64) (w : World) : Calls Tryz.prog 168 #[.agg (arr .u8 B)] w fun e w' => e = .returned (.agg (arr .u32 (spread B))) ∧ Below w.heap.size w w' := by
  obtain ⟨P, hP⟩ : ∃ P : Ending → World → Prop, P = (fun e w' => e = .returned (.agg (arr .u32 (spread B))) ∧ Below w.heap.size w w') := ⟨_, rfl⟩
  rw [← hP]
  have HP := Aside0.mk hP
  obtain ⟨cs, hcs⟩ : ∃ cs, cs = arr .u8 B := ⟨_, rfl⟩
  rw [← hcs]
  have HBL := Aside0.mk hB
  have HCS := Aside0.mk hcs
  have hidx := fun (i : Nat) (hi : i < 64) (W : World) => index93 B i hi hB W
  rw [← hcs] at hidx
  have HIDX := Aside0.mk hidx
  clear hP hB hidx hcs
  have b0 := below_alloc (below_alloc (below_alloc (Below.refl w.heap.size w) (.cells cs 240)) (.cells Z97 248)) (.cells Z97 248)
  have hs1 : (w.alloc (.cells cs 240)).heap.size = w.heap.size + 1 := by simp
  have hs2 : ((w.alloc (.cells cs 240)).alloc (.cells Z97 248)).heap.size = w.heap.size + 1 + 1 := by simp
  have G0 := Aside0.mk (blk_alloc (blk_alloc (blk_new w (.cells cs 240)) (.cells Z97 248)) (.cells Z97 248))
  have g1 := blk_alloc (blk_new (w.alloc (.cells cs 240)) (.cells Z97 248)) (.cells Z97 248)
  have g2 := blk_new ((w.alloc (.cells cs 240)).alloc (.cells Z97 248)) (.cells Z97 248)
  rw [hs1] at g1
  rw [hs2] at g2
  have H0 := Aside0.mk (⟨g2, g1, by simp, b0⟩ : SP w (List.replicate 64 0) (((w.alloc (.cells cs 240)).alloc (.cells Z97 248)).alloc (.cells Z97 248)))
  clear g1 g2 b0 hs1 hs2
  go_enter Tryz.func168, Tryz.ntmps168
  go_wp2_with (refine wpList_load_row rfl 240 (.tmp 1) rfl w.heap.size rfl 240 cs (0, 0) _ G0.out u93 rfl (by rw [i93, HCS.out, arr_size, HBL.out]) ?_)
  go_loopw [10] (fun v10 wr => ∃ (i : Nat), v10 = .int .i64 (i : Int) ∧ i ≤ 64 ∧ Aside0 (SP w (sp1 B i) wr)) (fun v _ => 64 - (intOf v).toNat)
  case atStart => exact ⟨0, rfl, by omega, H0⟩
  case round =>
    clear G0 H0
    obtain ⟨i, rfl, hi, H⟩ := hrel
    by_cases hlt : i < 64
    · have hd : decide ((i : Int) < 64) = true := decide_eq_true (by omega)
      obtain ⟨c, hc⟩ : ∃ c, c = B.getD i 0 := ⟨_, rfl⟩
      have hidx := HIDX.out i hlt wr
      rw [← hc] at hidx
      obtain ⟨q, hq⟩ : ∃ q, q = i / 4 := ⟨_, rfl⟩
      have hqi : (i : Int) / 4 = (q : Int) := by omega
      obtain ⟨x, hx⟩ : ∃ x, x = (sp1 B i).getD q 0 := ⟨_, rfl⟩
      have hq64 : q < 64 := by omega
      obtain ⟨x0, x1⟩ := H.out.at_ hq64
      rw [← hx] at x0
      have HS := Aside0.mk (H.out.set q (or_ (x * 256 % 4294967296) (c % 4294967296)))
      have HN := Aside0.mk (show (sp1 B i).set q (or_ (x * 256 % 4294967296) (c % 4294967296)) = sp1 B (i + 1) by rw [sp1, hx, hq, hc])
      clear hc hq hx
      go_wp2
      go_roundw
      case rel => exact ⟨i + 1, by go_num, by omega, ⟨by rw [← HN.out]; exact HS.out⟩⟩
      case measure => simp [intOf]; omega
    · obtain rfl : i = 64 := by omega
      rw [show ((64 : Nat) : Int) = 64 from rfl]
      have hd : decide ((64 : Int) < 64) = false := by decide
      go_wp2
      clear hd
      go_loopw [6] (fun v6 wr => ∃ (t : Nat), v6 = .int .i64 (t : Int) ∧ 16 ≤ t ∧ t ≤ 64 ∧ Aside0 (SP w (sp2 (sp1 B 64) (t - 16)) wr)) (fun v _ => 64 - (intOf v).toNat)
      case atStart => exact ⟨16, by go_num, by omega, by omega, H⟩
      case round =>
        clear H
        obtain ⟨t, rfl, ht1, ht2, H⟩ := hrel
        by_cases hlt : t < 64
        · have hd : decide ((t : Int) < 64) = true := decide_eq_true (by omega)
          obtain ⟨L, hL⟩ : ∃ L, L = sp2 (sp1 B 64) (t - 16) := ⟨_, rfl⟩
          have HLN := Aside0.mk (show L.set t (spW L t) = sp2 (sp1 B 64) (t + 1 - 16) by
            rw [show t + 1 - 16 = (t - 16) + 1 by omega, sp2, ← hL, show 16 + (t - 16) = t by omega])
          rw [← hL] at H
          clear hL
          obtain ⟨t2, h2a, h2b⟩ : ∃ t2, t2 + 2 ≤ t ∧ t ≤ t2 + 2 := ⟨t - 2, by omega, by omega⟩
          obtain ⟨t7, h7a, h7b⟩ : ∃ t7, t7 + 7 ≤ t ∧ t ≤ t7 + 7 := ⟨t - 7, by omega, by omega⟩
          obtain ⟨t15, h15a, h15b⟩ : ∃ t15, t15 + 15 ≤ t ∧ t ≤ t15 + 15 := ⟨t - 15, by omega, by omega⟩
          obtain ⟨t16, h16a, h16b⟩ : ∃ t16, t16 + 16 ≤ t ∧ t ≤ t16 + 16 := ⟨t - 16, by omega, by omega⟩
          obtain ⟨x, hx⟩ : ∃ x, x = L.getD t2 0 := ⟨_, rfl⟩
          obtain ⟨y, hy⟩ : ∃ y, y = L.getD t15 0 := ⟨_, rfl⟩
          obtain ⟨z7, hz7⟩ : ∃ x, x = L.getD t7 0 := ⟨_, rfl⟩
          obtain ⟨z16, hz16⟩ : ∃ x, x = L.getD t16 0 := ⟨_, rfl⟩
          have HSW := Aside0.mk (show spW L t = ad (ad (ad (xr (xr (dn 17 x) (dn 19 x)) (x / 1024)) z7) (xr (xr (dn 7 y) (dn 18 y)) (y / 8))) z16 by
            unfold spW
            rw [show t - 2 = t2 by omega, show t - 7 = t7 by omega, show t - 15 = t15 by omega, show t - 16 = t16 by omega, ← hx, ← hy, ← hz7, ← hz16])
          have HD := Aside0.mk H.out.drew
          have q2 := (HD.out.at_ (i := t2) (by omega)).1
          have q15 := (HD.out.at_ (i := t15) (by omega)).1
          rw [← hx] at q2
          rw [← hy] at q15
          have HX := Aside0.mk (And.intro hx (And.intro hy (And.intro hz7 hz16)))
          clear hx hy hz7 hz16
          go_wp2
          refine wp_region_held_drew (S := fun w' => w' = wr.drew) (by kernel_rfl) rfl (fun hW => ?_)
          generalize hWd : wr.drew = Wd at *
          clear hWd
          refine wpAnyH_take (i := 0) (oi := ⟨some 30, _, _, _, _, _⟩) (v := .int .i64 (t : Int)) rfl (by kernel_rfl) (by kernel_rfl) (by kernel_rfl) (fun _ _ _ h => h) (.inl ⟨by rfl, fun W1 h1 => by subst h1; go_simp⟩) hW ?_
          try simp only [Act.put, List.setIfInBounds_toArray, List.set_cons_zero, List.set_cons_succ]
          refine wpAnyH_take (i := 1) (oi := ⟨some 31, _, _, _, _, _⟩) (v := .int .i64 ((t : Int) - 2)) rfl (by kernel_rfl) (by kernel_rfl) (by kernel_rfl) (fun _ _ _ h => h) (.inl ⟨by rfl, fun W1 h1 => by subst h1; go_simp; rw [IntKind.wrap_i64]; omega⟩) hW ?_
          try simp only [Act.put, List.setIfInBounds_toArray, List.set_cons_zero, List.set_cons_succ]
          refine wpAnyH_take (i := 2) (oi := ⟨some 32, _, _, _, _, _⟩) (v := .pointer (some ⟨w.heap.size + 1 + 1, t2, none⟩)) rfl (by kernel_rfl) (by kernel_rfl) (by kernel_rfl) (fun _ _ _ h => h) (.inl ⟨by rfl, fun W1 h1 => by subst h1; go_simp; rw [show ((t : Int) - 2).toNat = t2 by omega, if_pos (by omega)]⟩) hW ?_
          try simp only [Act.put, List.setIfInBounds_toArray, List.set_cons_zero, List.set_cons_succ]
          refine wpAnyH_take (i := 3) (oi := ⟨some 33, _, _, _, _, _⟩) (v := .int .u32 x) rfl (by kernel_rfl) (by kernel_rfl) (by kernel_rfl) (fun _ _ _ h => h) (.inl ⟨by rfl, fun W1 h1 => by subst h1; go_simp⟩) hW ?_
          try simp only [Act.put, List.setIfInBounds_toArray, List.set_cons_zero, List.set_cons_succ]
          refine wpAnyH_take (i := 4) (oi := ⟨some 34, _, _, _, _, _⟩) (v := .int .i64 (t : Int)) rfl (by kernel_rfl) (by kernel_rfl) (by kernel_rfl) (fun _ _ _ h => h) (.inl ⟨by rfl, fun W1 h1 => by subst h1; go_simp⟩) hW ?_
          try simp only [Act.put, List.setIfInBounds_toArray, List.set_cons_zero, List.set_cons_succ]
          refine wpAnyH_take (i := 5) (oi := ⟨some 35, _, _, _, _, _⟩) (v := .int .i64 ((t : Int) - 15)) rfl (by kernel_rfl) (by kernel_rfl) (by kernel_rfl) (fun _ _ _ h => h) (.inl ⟨by rfl, fun W1 h1 => by subst h1; go_simp; rw [IntKind.wrap_i64]; omega⟩) hW ?_
          try simp only [Act.put, List.setIfInBounds_toArray, List.set_cons_zero, List.set_cons_succ]
          refine wpAnyH_take (i := 6) (oi := ⟨some 36, _, _, _, _, _⟩) (v := .pointer (some ⟨w.heap.size + 1 + 1, t15, none⟩)) rfl (by kernel_rfl) (by kernel_rfl) (by kernel_rfl) (fun _ _ _ h => h) (.inl ⟨by rfl, fun W1 h1 => by subst h1; go_simp; rw [show ((t : Int) - 15).toNat = t15 by omega, if_pos (by omega)]⟩) hW ?_
          try simp only [Act.put, List.setIfInBounds_toArray, List.set_cons_zero, List.set_cons_succ]
          refine wpAnyH_take (i := 7) (oi := ⟨some 37, _, _, _, _, _⟩) (v := .int .u32 y) rfl (by kernel_rfl) (by kernel_rfl) (by kernel_rfl) (fun _ _ _ h => h) (.inl ⟨by rfl, fun W1 h1 => by subst h1; go_simp⟩) hW ?_
          try simp only [Act.put, List.setIfInBounds_toArray, List.set_cons_zero, List.set_cons_succ]
          refine wpAnyH_take (i := 8) (oi := ⟨some 7, _, _, _, _, _⟩) (v := .int .u32 x) rfl (by kernel_rfl) (by kernel_rfl) (by kernel_rfl) (fun _ _ _ h => h) (.inl ⟨by rfl, fun W1 h1 => by subst h1; go_simp⟩) hW ?_
          try simp only [Act.put, List.setIfInBounds_toArray, List.set_cons_zero, List.set_cons_succ]
          refine wpAnyH_take (i := 9) (oi := ⟨some 8, _, _, _, _, _⟩) (v := .int .u32 y) rfl (by kernel_rfl) (by kernel_rfl) (by kernel_rfl) (fun _ _ _ h => h) (.inl ⟨by rfl, fun W1 h1 => by subst h1; go_simp⟩) hW ?_
          try simp only [Act.put, List.setIfInBounds_toArray, List.set_cons_zero, List.set_cons_succ]
          refine wpAnyH_done (by kernel_rfl) ?_ _
          clear q2 q15
          have HE := Aside0.mk HD.out.drew
          have q7 := (HE.out.at_ (i := t7) (by omega)).1
          have q16 := (HE.out.at_ (i := t16) (by omega)).1
          rw [← HX.out.2.2.1] at q7
          rw [← HX.out.2.2.2] at q16
          have qf := (HE.out.at_ (i := t) (by omega))
          have HSN := Aside0.mk (HE.out.set t (spW L t))
          rw [HSW.out] at HSN
          clear HD
          go_wp2
          refine wp_region_held_drew (S := fun w' => w'.cell? ⟨w.heap.size + 1 + 1, t7, none⟩ = some (.int .u32 z7) ∧ w'.cell? ⟨w.heap.size + 1 + 1, t16, none⟩ = some (.int .u32 z16)) (by kernel_rfl) ⟨q7, q16⟩ (fun hW => ?_)
          generalize hWd : Wd.drew = We at *
          clear hWd
          refine wpAnyH_take (i := 0) (oi := ⟨some 38, _, _, _, _, _⟩) (v := .int .i64 (t : Int)) rfl (by kernel_rfl) (by kernel_rfl) (by kernel_rfl) (fun _ _ _ h => h) (.inl ⟨by rfl, fun W1 h1 => by (obtain ⟨h7, h16⟩ := h1); go_simp⟩) hW ?_
          try simp only [Act.put, List.setIfInBounds_toArray, List.set_cons_zero, List.set_cons_succ]
          refine wpAnyH_take (i := 1) (oi := ⟨some 39, _, _, _, _, _⟩) (v := .int .u32 x) rfl (by kernel_rfl) (by kernel_rfl) (by kernel_rfl) (fun _ _ _ h => h) (.inl ⟨by rfl, fun W1 h1 => by (obtain ⟨h7, h16⟩ := h1); go_simp⟩) hW ?_
          try simp only [Act.put, List.setIfInBounds_toArray, List.set_cons_zero, List.set_cons_succ]
          refine wpAnyH_take (i := 3) (oi := ⟨some 41, _, _, _, _, _⟩) (v := .int .u32 x) rfl (by kernel_rfl) (by kernel_rfl) (by kernel_rfl) (fun _ _ _ h => h) (.inl ⟨by rfl, fun W1 h1 => by (obtain ⟨h7, h16⟩ := h1); go_simp⟩) hW ?_
          try simp only [Act.put, List.setIfInBounds_toArray, List.set_cons_zero, List.set_cons_succ]
          refine wpAnyH_take (i := 6) (oi := ⟨some 44, _, _, _, _, _⟩) (v := .int .u32 x) rfl (by kernel_rfl) (by kernel_rfl) (by kernel_rfl) (fun _ _ _ h => h) (.inl ⟨by rfl, fun W1 h1 => by (obtain ⟨h7, h16⟩ := h1); go_simp⟩) hW ?_
          try simp only [Act.put, List.setIfInBounds_toArray, List.set_cons_zero, List.set_cons_succ]
          refine wpAnyH_take (i := 7) (oi := ⟨some 45, _, _, _, _, _⟩) (v := .int .u32 (x / 1024)) rfl (by kernel_rfl) (by kernel_rfl) (by kernel_rfl) (fun _ _ _ h => h) (.inl ⟨by rfl, fun W1 h1 => by (obtain ⟨h7, h16⟩ := h1); go_simp⟩) hW ?_
          try simp only [Act.put, List.setIfInBounds_toArray, List.set_cons_zero, List.set_cons_succ]
          refine wpAnyH_take (i := 9) (oi := ⟨some 47, _, _, _, _, _⟩) (v := .int .i64 (t : Int)) rfl (by kernel_rfl) (by kernel_rfl) (by kernel_rfl) (fun _ _ _ h => h) (.inl ⟨by rfl, fun W1 h1 => by (obtain ⟨h7, h16⟩ := h1); go_simp⟩) hW ?_
          try simp only [Act.put, List.setIfInBounds_toArray, List.set_cons_zero, List.set_cons_succ]
          refine wpAnyH_take (i := 10) (oi := ⟨some 48, _, _, _, _, _⟩) (v := .int .i64 ((t : Int) - 7)) rfl (by kernel_rfl) (by kernel_rfl) (by kernel_rfl) (fun _ _ _ h => h) (.inl ⟨by rfl, fun W1 h1 => by (obtain ⟨h7, h16⟩ := h1); go_simp; rw [IntKind.wrap_i64]; omega⟩) hW ?_
          try simp only [Act.put, List.setIfInBounds_toArray, List.set_cons_zero, List.set_cons_succ]
          refine wpAnyH_take (i := 11) (oi := ⟨some 49, _, _, _, _, _⟩) (v := .pointer (some ⟨w.heap.size + 1 + 1, t7, none⟩)) rfl (by kernel_rfl) (by kernel_rfl) (by kernel_rfl) (fun _ _ _ h => h) (.inl ⟨by rfl, fun W1 h1 => by (obtain ⟨h7, h16⟩ := h1); go_simp; rw [show ((t : Int) - 7).toNat = t7 by omega, if_pos (by omega)]⟩) hW ?_
          try simp only [Act.put, List.setIfInBounds_toArray, List.set_cons_zero, List.set_cons_succ]
          refine wpAnyH_take (i := 12) (oi := ⟨some 50, _, _, _, _, _⟩) (v := .int .u32 z7) rfl (by kernel_rfl) (by kernel_rfl) (by kernel_rfl) (fun _ _ _ h => h) (.inl ⟨by rfl, fun W1 h1 => by (obtain ⟨h7, h16⟩ := h1); go_simp⟩) hW ?_
          try simp only [Act.put, List.setIfInBounds_toArray, List.set_cons_zero, List.set_cons_succ]
          refine wpAnyH_take (i := 14) (oi := ⟨some 52, _, _, _, _, _⟩) (v := .int .u32 y) rfl (by kernel_rfl) (by kernel_rfl) (by kernel_rfl) (fun _ _ _ h => h) (.inl ⟨by rfl, fun W1 h1 => by (obtain ⟨h7, h16⟩ := h1); go_simp⟩) hW ?_
          try simp only [Act.put, List.setIfInBounds_toArray, List.set_cons_zero, List.set_cons_succ]
          refine wpAnyH_take (i := 16) (oi := ⟨some 54, _, _, _, _, _⟩) (v := .int .u32 y) rfl (by kernel_rfl) (by kernel_rfl) (by kernel_rfl) (fun _ _ _ h => h) (.inl ⟨by rfl, fun W1 h1 => by (obtain ⟨h7, h16⟩ := h1); go_simp⟩) hW ?_
          try simp only [Act.put, List.setIfInBounds_toArray, List.set_cons_zero, List.set_cons_succ]
          refine wpAnyH_take (i := 19) (oi := ⟨some 57, _, _, _, _, _⟩) (v := .int .u32 y) rfl (by kernel_rfl) (by kernel_rfl) (by kernel_rfl) (fun _ _ _ h => h) (.inl ⟨by rfl, fun W1 h1 => by (obtain ⟨h7, h16⟩ := h1); go_simp⟩) hW ?_
          try simp only [Act.put, List.setIfInBounds_toArray, List.set_cons_zero, List.set_cons_succ]
          refine wpAnyH_take (i := 20) (oi := ⟨some 58, _, _, _, _, _⟩) (v := .int .u32 (y / 8)) rfl (by kernel_rfl) (by kernel_rfl) (by kernel_rfl) (fun _ _ _ h => h) (.inl ⟨by rfl, fun W1 h1 => by (obtain ⟨h7, h16⟩ := h1); go_simp⟩) hW ?_
          try simp only [Act.put, List.setIfInBounds_toArray, List.set_cons_zero, List.set_cons_succ]
          refine wpAnyH_take (i := 23) (oi := ⟨some 61, _, _, _, _, _⟩) (v := .int .i64 (t : Int)) rfl (by kernel_rfl) (by kernel_rfl) (by kernel_rfl) (fun _ _ _ h => h) (.inl ⟨by rfl, fun W1 h1 => by (obtain ⟨h7, h16⟩ := h1); go_simp⟩) hW ?_
          try simp only [Act.put, List.setIfInBounds_toArray, List.set_cons_zero, List.set_cons_succ]
          refine wpAnyH_take (i := 24) (oi := ⟨some 62, _, _, _, _, _⟩) (v := .int .i64 ((t : Int) - 16)) rfl (by kernel_rfl) (by kernel_rfl) (by kernel_rfl) (fun _ _ _ h => h) (.inl ⟨by rfl, fun W1 h1 => by (obtain ⟨h7, h16⟩ := h1); go_simp; rw [IntKind.wrap_i64]; omega⟩) hW ?_
          try simp only [Act.put, List.setIfInBounds_toArray, List.set_cons_zero, List.set_cons_succ]
          refine wpAnyH_take (i := 25) (oi := ⟨some 63, _, _, _, _, _⟩) (v := .pointer (some ⟨w.heap.size + 1 + 1, t16, none⟩)) rfl (by kernel_rfl) (by kernel_rfl) (by kernel_rfl) (fun _ _ _ h => h) (.inl ⟨by rfl, fun W1 h1 => by (obtain ⟨h7, h16⟩ := h1); go_simp; rw [show ((t : Int) - 16).toNat = t16 by omega, if_pos (by omega)]⟩) hW ?_
          try simp only [Act.put, List.setIfInBounds_toArray, List.set_cons_zero, List.set_cons_succ]
          refine wpAnyH_take (i := 26) (oi := ⟨some 64, _, _, _, _, _⟩) (v := .int .u32 z16) rfl (by kernel_rfl) (by kernel_rfl) (by kernel_rfl) (fun _ _ _ h => h) (.inl ⟨by rfl, fun W1 h1 => by (obtain ⟨h7, h16⟩ := h1); go_simp⟩) hW ?_
          try simp only [Act.put, List.setIfInBounds_toArray, List.set_cons_zero, List.set_cons_succ]
          refine wpAnyH_ready (rs := [2]) (by kernel_rfl) (by simp) (AllReadyH.cons rfl (fun K1 hK1 => ?_) AllReadyH.nil)
          go_simp
          refine (down_calls x 17 17 rfl (by decide) (by decide) _).mono ?_
          rintro e w' ⟨rfl, rfl⟩
          refine hK1.out _ _ hW (fun hW => ?_)
          try simp only [Act.put, List.setIfInBounds_toArray, List.set_cons_zero, List.set_cons_succ]
          refine wpAnyH_ready (rs := [4]) (by kernel_rfl) (by simp) (AllReadyH.cons rfl (fun K2 hK2 => ?_) AllReadyH.nil)
          go_simp
          refine (down_calls x 19 19 rfl (by decide) (by decide) _).mono ?_
          rintro e w' ⟨rfl, rfl⟩
          refine hK2.out _ _ hW (fun hW => ?_)
          try simp only [Act.put, List.setIfInBounds_toArray, List.set_cons_zero, List.set_cons_succ]
          refine wpAnyH_take (i := 5) (oi := ⟨some 43, _, _, _, _, _⟩) (v := .int .u32 (xr (dn 17 x) (dn 19 x))) rfl (by kernel_rfl) (by kernel_rfl) (by kernel_rfl) (fun _ _ _ h => h) (.inl ⟨by rfl, fun W1 h1 => by (obtain ⟨h7, h16⟩ := h1); go_simp⟩) hW ?_
          try simp only [Act.put, List.setIfInBounds_toArray, List.set_cons_zero, List.set_cons_succ]
          refine wpAnyH_take (i := 8) (oi := ⟨some 46, _, _, _, _, _⟩) (v := .int .u32 (xr (xr (dn 17 x) (dn 19 x)) (x / 1024))) rfl (by kernel_rfl) (by kernel_rfl) (by kernel_rfl) (fun _ _ _ h => h) (.inl ⟨by rfl, fun W1 h1 => by (obtain ⟨h7, h16⟩ := h1); go_simp⟩) hW ?_
          try simp only [Act.put, List.setIfInBounds_toArray, List.set_cons_zero, List.set_cons_succ]
          refine wpAnyH_take (i := 13) (oi := ⟨some 51, _, _, _, _, _⟩) (v := .int .u32 (ad (xr (xr (dn 17 x) (dn 19 x)) (x / 1024)) z7)) rfl (by kernel_rfl) (by kernel_rfl) (by kernel_rfl) (fun _ _ _ h => h) (.inl ⟨by rfl, fun W1 h1 => by (obtain ⟨h7, h16⟩ := h1); go_simp⟩) hW ?_
          try simp only [Act.put, List.setIfInBounds_toArray, List.set_cons_zero, List.set_cons_succ]
          refine wpAnyH_ready (rs := [15]) (by kernel_rfl) (by simp) (AllReadyH.cons rfl (fun K3 hK3 => ?_) AllReadyH.nil)
          go_simp
          refine (down_calls y 7 7 rfl (by decide) (by decide) _).mono ?_
          rintro e w' ⟨rfl, rfl⟩
          refine hK3.out _ _ hW (fun hW => ?_)
          try simp only [Act.put, List.setIfInBounds_toArray, List.set_cons_zero, List.set_cons_succ]
          refine wpAnyH_ready (rs := [17]) (by kernel_rfl) (by simp) (AllReadyH.cons rfl (fun K4 hK4 => ?_) AllReadyH.nil)
          go_simp
          refine (down_calls y 18 18 rfl (by decide) (by decide) _).mono ?_
          rintro e w' ⟨rfl, rfl⟩
          refine hK4.out _ _ hW (fun hW => ?_)
          try simp only [Act.put, List.setIfInBounds_toArray, List.set_cons_zero, List.set_cons_succ]
          refine wpAnyH_take (i := 18) (oi := ⟨some 56, _, _, _, _, _⟩) (v := .int .u32 (xr (dn 7 y) (dn 18 y))) rfl (by kernel_rfl) (by kernel_rfl) (by kernel_rfl) (fun _ _ _ h => h) (.inl ⟨by rfl, fun W1 h1 => by (obtain ⟨h7, h16⟩ := h1); go_simp⟩) hW ?_
          try simp only [Act.put, List.setIfInBounds_toArray, List.set_cons_zero, List.set_cons_succ]
          refine wpAnyH_take (i := 21) (oi := ⟨some 59, _, _, _, _, _⟩) (v := .int .u32 (xr (xr (dn 7 y) (dn 18 y)) (y / 8))) rfl (by kernel_rfl) (by kernel_rfl) (by kernel_rfl) (fun _ _ _ h => h) (.inl ⟨by rfl, fun W1 h1 => by (obtain ⟨h7, h16⟩ := h1); go_simp⟩) hW ?_
          try simp only [Act.put, List.setIfInBounds_toArray, List.set_cons_zero, List.set_cons_succ]
          refine wpAnyH_take (i := 22) (oi := ⟨some 60, _, _, _, _, _⟩) (v := .int .u32 (ad (ad (xr (xr (dn 17 x) (dn 19 x)) (x / 1024)) z7) (xr (xr (dn 7 y) (dn 18 y)) (y / 8)))) rfl (by kernel_rfl) (by kernel_rfl) (by kernel_rfl) (fun _ _ _ h => h) (.inl ⟨by rfl, fun W1 h1 => by (obtain ⟨h7, h16⟩ := h1); go_simp⟩) hW ?_
          try simp only [Act.put, List.setIfInBounds_toArray, List.set_cons_zero, List.set_cons_succ]
          refine wpAnyH_take (i := 27) (oi := ⟨some 65, _, _, _, _, _⟩) (v := .int .u32 (ad (ad (ad (xr (xr (dn 17 x) (dn 19 x)) (x / 1024)) z7) (xr (xr (dn 7 y) (dn 18 y)) (y / 8))) z16)) rfl (by kernel_rfl) (by kernel_rfl) (by kernel_rfl) (fun _ _ _ h => h) (.inl ⟨by rfl, fun W1 h1 => by (obtain ⟨h7, h16⟩ := h1); go_simp⟩) hW ?_
          try simp only [Act.put, List.setIfInBounds_toArray, List.set_cons_zero, List.set_cons_succ]
          refine wpAnyH_take (i := 28) (oi := ⟨some 66, _, _, _, _, _⟩) (v := .pointer (some ⟨w.heap.size + 1 + 1, t, none⟩)) rfl (by kernel_rfl) (by kernel_rfl) (by kernel_rfl) (fun _ _ _ h => h) (.inl ⟨by rfl, fun W1 h1 => by (obtain ⟨h7, h16⟩ := h1); go_simp; intro hbad; omega⟩) hW ?_
          try simp only [Act.put, List.setIfInBounds_toArray, List.set_cons_zero, List.set_cons_succ]
          refine wpAnyH_ready (rs := [29]) (by kernel_rfl) (by simp) (AllReadyH.cons rfl (fun K9 hK9 => ?_) AllReadyH.nil)
          go_simp
          have r7 := (HSN.out.at_ (i := t7) (by omega)).1
          have r16 := (HSN.out.at_ (i := t16) (by omega)).1
          rw [getD_set0 _ _ _ _ (by omega), ← HX.out.2.2.1] at r7
          rw [getD_set0 _ _ _ _ (by omega), ← HX.out.2.2.2] at r16
          refine hK9.out _ _ ⟨r7, r16⟩ (fun hW => ?_)
          refine wpAnyH_done (by kernel_rfl) ?_ _
          clear hW r7 r16 hK9 K9 q7 q16 qf
          generalize hWn : We.setCell ⟨w.heap.size + 1 + 1, t, none⟩ _ = Wn at *
          clear hWn
          go_wp2
          go_roundw
          case rel => exact ⟨t + 1, by go_num, by omega, by omega, ⟨by rw [← HLN.out, HSW.out]; exact HSN.out⟩⟩
          case measure => simp [intOf]; omega
        · obtain rfl : t = 64 := by omega
          have hd : decide (((64 : Nat) : Int) < 64) = false := by decide
          obtain ⟨cw, hcw⟩ : ∃ cw, cw = arr .u32 (sp2 (sp1 B 64) (64 - 16)) := ⟨_, rfl⟩
          have H2 := Aside0.mk H.out.arr
          rw [← hcw] at H2
          have H3 := Aside0.mk H.out.res
          have H4 := Aside0.mk H.out.below
          have HCW := Aside0.mk (And.intro hcw (show cw.size = 64 by rw [hcw, arr_size, sp2_len, sp1_len]))
          have hone := Aside0.mk (show cw.all (·.oneCell') = true by rw [hcw]; exact arr_one _ _)
          clear H hcw
          go_wp2_with (first | (refine wpList_load_row rfl 248 (.tmp 3) rfl (w.heap.size + 1 + 1) rfl 248 cw (0, 0) _ H2.out u97 rfl (by rw [i97, HCW.out.2]) ?_) | (refine wpList_store_row rfl 248 (.tmp 2) (.tmp 67) rfl (w.heap.size + 1) cw rfl rfl 248 Z97 H3.out (by rw [i97, HCW.out.2]) (by rw [HCW.out.2]; rfl) hone.out ?_))
          refine bodyPost_ret (res_c (p := 2) _ rfl rfl (setRow_heap _ (w.heap.size + 1) Z97 cw 248 _ H3.out) u97 rfl (by rw [i97, HCW.out.2])) rfl ?_
          rw [HP.out]
          exact ⟨by rw [HCW.out.1]; rfl, below_setRow H4.out (by omega) _⟩
end Go.Proofs.YtchhdafgmifhdaaGreat.ShaB
namespace Go.Proofs.YtchhdafgmifhdaaGreat.ShaK
open Go.RowKit Go.Proofs.YtchhdafgmifhdaaGreat.B8 Go.Proofs.YtchhdafgmifhdaaGreat.Agg Go.Proofs.YtchhdafgmifhdaaGreat.CodL Go.Proofs.YtchhdafgmifhdaaGreat.CodA Go.Proofs.YtchhdafgmifhdaaGreat.CodB Go.Proofs.YtchhdafgmifhdaaGreat.CrcL Go.Proofs.YtchhdafgmifhdaaGreat.CrcA Go.Proofs.YtchhdafgmifhdaaGreat.CrcB Go.Proofs.YtchhdafgmifhdaaGreat.PVerifyForms Go.Proofs.YtchhdafgmifhdaaGreatW.PrintWords Go.Proofs.YtchhdafgmifhdaaGreatW.PrintLast Go.Proofs.YtchhdafgmifhdaaGreatW.PrintMore Go.Proofs.YtchhdafgmifhdaaGreat.ShaA Go.Proofs.YtchhdafgmifhdaaGreat.ShaB Go.Proofs.YtchhdafgmifhdaaGreat.CrcC
set_option linter.unusedVariables false
set_option linter.unusedSimpArgs false
def keysL : List Int := [1116352408, 1899447441, 3049323471, 3921009573, 961987163, 1508970993, 2453635748, 2870763221, 3624381080, 310598401, 607225278, 1426881987, 1925078388, 2162078206, 2614888103, 3248222580, 3835390401, 4022224774, 264347078, 604807628, 770255983, 1249150122, 1555081692, 1996064986, 2554220882, 2821834349, 2952996808, 3210313671, 3336571891, 3584528711, 113926993, 338241895, 666307205, 773529912, 1294757372, 1396182291, 1695183700, 1986661051, 2177026350, 2456956037, 2730485921, 2820302411, 3259730800, 3345764771, 3516065817, 3600352804, 4094571909, 275423344, 430227734, 506948616, 659060556, 883997877, 958139571, 1322822218, 1537002063, 1747873779, 1955562222, 2024104815, 2227730452, 2361852424, 2428436474, 2756734187, 3204031479, 3329325298]
abbrev K97 : Array Value := #[.int .u32 1116352408, .int .u32 1899447441, .int .u32 3049323471, .int .u32 3921009573, .int .u32 961987163, .int .u32 1508970993, .int .u32 2453635748, .int .u32 2870763221, .int .u32 3624381080, .int .u32 310598401, .int .u32 607225278, .int .u32 1426881987, .int .u32 1925078388, .int .u32 2162078206, .int .u32 2614888103, .int .u32 3248222580, .int .u32 3835390401, .int .u32 4022224774, .int .u32 264347078, .int .u32 604807628, .int .u32 770255983, .int .u32 1249150122, .int .u32 1555081692, .int .u32 1996064986, .int .u32 2554220882, .int .u32 2821834349, .int .u32 2952996808, .int .u32 3210313671, .int .u32 3336571891, .int .u32 3584528711, .int .u32 113926993, .int .u32 338241895, .int .u32 666307205, .int .u32 773529912, .int .u32 1294757372, .int .u32 1396182291, .int .u32 1695183700, .int .u32 1986661051, .int .u32 2177026350, .int .u32 2456956037, .int .u32 2730485921, .int .u32 2820302411, .int .u32 3259730800, .int .u32 3345764771, .int .u32 3516065817, .int .u32 3600352804, .int .u32 4094571909, .int .u32 275423344, .int .u32 430227734, .int .u32 506948616, .int .u32 659060556, .int .u32 883997877, .int .u32 958139571, .int .u32 1322822218, .int .u32 1537002063, .int .u32 1747873779, .int .u32 1955562222, .int .u32 2024104815, .int .u32 2227730452, .int .u32 2361852424, .int .u32 2428436474, .int .u32 2756734187, .int .u32 3204031479, .int .u32 3329325298]
theorem k97 : K97 = arr .u32 keysL := by
  unfold arr keysL
  rfl
theorem wpList_build_of {P : Program} {ops : Array Oper} {rest : List Oper} {o : Oper} {a : Act} {w : World} {Q : Exit → Act → World → Prop} (hg : o.guard = none) (t : TypeId) (parts : Array (Nat × Operand)) (ho : o.op = .build t parts)
    (cells : Array Value) (hc : P.built t (parts.map fun (i, x) => (i, a.eval x)).toList = some cells)
    (h : wpList P ops Q rest (a.put o.dst (.agg cells)) w) : wpList P ops Q (o :: rest) a w :=
  wpList_build hg t parts ho (by rw [hc]; rfl) (by rw [hc]; exact h)
set_option maxRecDepth 100000 in
theorem keys_calls0 (w : World) : Calls Tryz.prog 169 #[] w fun e w' => e = .returned (.agg K97) ∧ Below w.heap.size w w' := by
  obtain ⟨ck, hck⟩ : ∃ ck, ck = K97 := ⟨_, rfl⟩
  rw [← hck]
  have HCK := Aside0.mk (And.intro hck (And.intro (show ck.size = 64 by rw [hck]; rfl) (show ck.all (·.oneCell') = true by rw [hck, k97]; exact arr_one _ _)))
  clear hck
  obtain ⟨P, hP⟩ : ∃ P : Ending → World → Prop, P = (fun e w' => e = .returned (.agg ck) ∧ Below w.heap.size w w') := ⟨_, rfl⟩
  rw [← hP]
  have HP := Aside0.mk hP
  clear hP
  go_enter Tryz.func169, Tryz.ntmps169
  go_wp2_with (first | (refine wpList_build_of rfl 248 _ rfl ck ?hb ?_; (case hb => rw [HCK.out.1]; kernel_rfl)) | (refine wpList_store_row rfl 248 (.tmp 0) (.tmp 1) rfl w.heap.size ck rfl rfl 248 Z97 (heap_new _ _) (by rw [i97, HCK.out.2.1]) (by rw [HCK.out.2.1]; rfl) HCK.out.2.2 ?_))
  refine bodyPost_ret (res_c (p := 0) _ rfl rfl (setRow_heap _ w.heap.size Z97 ck 248 _ (heap_new _ _)) u97 rfl (by rw [i97, HCK.out.2.1])) rfl ?_
  rw [HP.out]
  exact ⟨rfl, below_setRow (below_alloc (Below.refl _ _) _) (Nat.le_refl _) _⟩
theorem keys_calls (w : World) : Calls Tryz.prog 169 #[] w fun e w' => e = .returned (.agg (arr .u32 keysL)) ∧ Below w.heap.size w w' := by
  rw [← k97]
  exact keys_calls0 w
end Go.Proofs.YtchhdafgmifhdaaGreat.ShaK
namespace Go.Proofs.YtchhdafgmifhdaaGreat.ShaC
open Go.RowKit Go.Proofs.YtchhdafgmifhdaaGreat.B8 Go.Proofs.YtchhdafgmifhdaaGreat.Agg Go.Proofs.YtchhdafgmifhdaaGreat.CodL Go.Proofs.YtchhdafgmifhdaaGreat.CodA Go.Proofs.YtchhdafgmifhdaaGreat.CodB Go.Proofs.YtchhdafgmifhdaaGreat.CrcL Go.Proofs.YtchhdafgmifhdaaGreat.CrcA Go.Proofs.YtchhdafgmifhdaaGreat.CrcB Go.Proofs.YtchhdafgmifhdaaGreat.PVerifyForms Go.Proofs.YtchhdafgmifhdaaGreatW.PrintWords Go.Proofs.YtchhdafgmifhdaaGreatW.PrintLast Go.Proofs.YtchhdafgmifhdaaGreatW.PrintMore Go.Proofs.YtchhdafgmifhdaaGreat.ShaA Go.Proofs.YtchhdafgmifhdaaGreat.ShaB Go.Proofs.YtchhdafgmifhdaaGreat.ShaK Go.Proofs.YtchhdafgmifhdaaGreat.CrcC
set_option linter.unusedVariables false
set_option linter.unusedSimpArgs false
attribute [local go_sem] xr_eq an_eq or_eq ad_eq ad_eq2
/-- A state's cells: eight words, and how many bytes went in. -/
def stA (H : List Int) (n : Int) : Array Value := (arr .u32 H).push (.int .u64 n)
theorem stA_size {H : List Int} (h : H.length = 8) (n : Int) : (stA H n).size = 9 := by simp [stA, arr_size, h]
theorem stA_at {H : List Int} (h : H.length = 8) (n : Int) {i : Nat} (hi : i < 8) : (stA H n)[i]? = some (.int .u32 (H.getD i 0)) := by
  unfold stA
  rw [Array.getElem?_push_lt (by rw [arr_size]; omega), ← Array.getElem?_eq_getElem, arr_at (by omega)]
theorem stA_n {H : List Int} (h : H.length = 8) (n : Int) : (stA H n)[8]? = some (.int .u64 n) := by
  have : 8 = (arr .u32 H).size := by rw [arr_size, h]
  unfold stA
  rw [this, Array.getElem?_push_size]
theorem stA_set {H : List Int} (h : H.length = 8) (n : Int) (i : Nat) (hi : i < 8) (x : Int) : (stA H n).setIfInBounds i (.int .u32 x) = stA (H.set i x) n := by
  unfold stA arr
  apply Array.toList_inj.1
  simp only [Array.toList_setIfInBounds, Array.toList_push, List.map_set]
  rw [List.set_append_left _ _ (by simp; omega)]
theorem stA_setn {H : List Int} (h : H.length = 8) (n m : Int) : (stA H n).setIfInBounds 8 (.int .u64 m) = stA H m := by
  unfold stA arr
  apply Array.toList_inj.1
  simp only [Array.toList_setIfInBounds, Array.toList_push]
  rw [List.set_append_right _ _ (by simp; omega)]
  simp [h]
theorem stA_one (H : List Int) (n : Int) : (stA H n).all (·.oneCell') = true := by
  unfold stA
  rw [Array.all_push, arr_one]
  rfl
abbrev Z90 : Array Value := #[.int .u32 0, .int .u32 0, .int .u32 0, .int .u32 0, .int .u32 0, .int .u32 0, .int .u32 0, .int .u32 0, .int .u64 0]
theorem i90 : (Tryz.prog.info? 237).map (·.size) = some 9 := by kernel_rfl
theorem und87 : Tryz.prog.underlying 235 = some (.array 8 29) := by kernel_rfl
/-- The eight words of a round. -/
structure S8 where
  (a b c d e f g h : Int)
def chi (e f g : Int) : Int := xr (an e f) (an (xr IntKind.u32.max e) g)
def maj (a b c : Int) : Int := xr (xr (an a b) (an a c)) (an b c)
def fst_ (s : S8) (k w : Int) : Int := ad (ad (ad (ad s.h (xr (xr (dn 6 s.e) (dn 11 s.e)) (dn 25 s.e))) (chi s.e s.f s.g)) k) w
def snd_ (s : S8) : Int := ad (xr (xr (dn 2 s.a) (dn 13 s.a)) (dn 22 s.a)) (maj s.a s.b s.c)
def stp (k w : Int) (s : S8) : S8 := ⟨ad (fst_ s k w) (snd_ s), s.a, s.b, s.c, ad s.d (fst_ s k w), s.e, s.f, s.g⟩
def rounds8 (WL : List Int) (s : S8) : Nat → S8
  | 0 => s
  | t + 1 => stp (keysL.getD t 0) (WL.getD t 0) (rounds8 WL s t)
def ofL (H : List Int) : S8 := ⟨H.getD 0 0, H.getD 1 0, H.getD 2 0, H.getD 3 0, H.getD 4 0, H.getD 5 0, H.getD 6 0, H.getD 7 0⟩
def toL (s : S8) : List Int := [s.a, s.b, s.c, s.d, s.e, s.f, s.g, s.h]
def addH (H xs : List Int) : Nat → List Int
  | 0 => H
  | i + 1 => (addH H xs i).set i (ad ((addH H xs i).getD i 0) (xs.getD i 0))
def blockH (H B : List Int) : List Int := addH H (toL (rounds8 (spread B) (ofL H) 64)) 8
theorem addH_len (H xs : List Int) (i : Nat) : (addH H xs i).length = H.length := by
  induction i with
  | zero => rfl
  | succ i ih => rw [addH, List.length_set, ih]
theorem blockH_len {H : List Int} (h : H.length = 8) (B : List Int) : (blockH H B).length = 8 := by rw [blockH, addH_len, h]
structure BK (w : World) (st : Array Value) (gk gw : Nat) (WL : List Int) (W : World) : Prop where
  s : W.heap[w.heap.size]? = some (.cells st 237 (0, 0))
  r : W.heap[w.heap.size + 1 + 1]? = some (.cells Z90 237 (0, 0))
  k : W.heap[gk]? = some (.cells (arr .u32 keysL) 248 (0, 0))
  w_ : W.heap[gw]? = some (.cells (arr .u32 WL) 248 (0, 0))
  below : Below w.heap.size w W
theorem BK.on {w : World} {st : Array Value} {gk gw : Nat} {WL : List Int} {W W1 : World} (h : BK w st gk gw WL W) (hb : Below W.heap.size W W1) : BK w st gk gw WL W1 :=
  ⟨blk_below h.s hb, blk_below h.r hb, blk_below h.k hb, blk_below h.w_ hb, below_then h.below h.below.size hb⟩
theorem BK.set {w : World} {st : Array Value} {gk gw : Nat} {WL : List Int} {W : World} (h : BK w st gk gw WL W) (hk : gk ≠ w.heap.size) (hw : gw ≠ w.heap.size) (i : Nat) (v : Value) : BK w (st.setIfInBounds i v) gk gw WL (W.setCell ⟨w.heap.size, i, none⟩ v) :=
  ⟨heap_setCell_same _ _ _ _ _ _ h.s, (Below.heap_setCell W ⟨w.heap.size, i, none⟩ _ _ (by show _ ≠ w.heap.size; omega)).trans h.r, (Below.heap_setCell W ⟨w.heap.size, i, none⟩ _ _ hk).trans h.k, (Below.heap_setCell W ⟨w.heap.size, i, none⟩ _ _ hw).trans h.w_, h.below.setCell (Nat.le_refl _) _⟩
set_option maxRecDepth 100000 in
set_option maxHeartbeats 8000000 in
theorem block_calls (H : List Int) (n : Int) (B : List Int) (hH : H.length = 8) (hB : B.length = 64) (w : World) :
    Calls Tryz.prog 160 #[.agg (stA H n), .agg (arr .u8 B)] w fun e w' => e = .returned (.agg (stA (blockH H B) (IntKind.u64.wrap (n + 64)))) ∧ Below w.heap.size w w' := by
  obtain ⟨P, hP⟩ : ∃ P : Ending → World → Prop, P = (fun e w' => e = .returned (.agg (stA (blockH H B) (IntKind.u64.wrap (n + 64)))) ∧ Below w.heap.size w w') := ⟨_, rfl⟩
  rw [← hP]
  have HP := Aside0.mk hP
  obtain ⟨st, hst⟩ : ∃ st, st = stA H n := ⟨_, rfl⟩
  obtain ⟨cs, hcs⟩ : ∃ cs, cs = arr .u8 B := ⟨_, rfl⟩
  rw [← hst, ← hcs]
  have HST := Aside0.mk (And.intro hst (And.intro hH (show st.size = 9 by rw [hst, stA_size hH])))
  have HCS := Aside0.mk (And.intro hcs (And.intro hB (show cs.size = 64 by rw [hcs, arr_size, hB])))
  clear hP hst hcs hH hB
  have b0 := below_alloc (below_alloc (below_alloc (Below.refl w.heap.size w) (.cells st 237)) (.cells cs 240)) (.cells Z90 237)
  have hs1 : (w.alloc (.cells st 237)).heap.size = w.heap.size + 1 := by simp
  have hs2 : ((w.alloc (.cells st 237)).alloc (.cells cs 240)).heap.size = w.heap.size + 1 + 1 := by simp
  have g0 := blk_alloc (blk_alloc (blk_new w (.cells st 237)) (.cells cs 240)) (.cells Z90 237)
  have g1 := blk_alloc (blk_new (w.alloc (.cells st 237)) (.cells cs 240)) (.cells Z90 237)
  have g2 := blk_new ((w.alloc (.cells st 237)).alloc (.cells cs 240)) (.cells Z90 237)
  rw [hs1] at g1
  rw [hs2] at g2
  have G := Aside0.mk (And.intro g0 (And.intro g1 (And.intro g2 b0)))
  clear g0 g1 g2 b0 hs1 hs2
  go_enter Tryz.func160, Tryz.ntmps160
  go_wp2_with (refine wpList_load_row rfl 240 (.tmp 3) rfl (w.heap.size + 1) rfl 240 cs (0, 0) _ G.out.2.1 u93 rfl (by rw [i93, HCS.out.2.2]) ?_)
  generalize hWa : ((w.alloc (.cells st 237)).alloc (.cells cs 240)).alloc (.cells Z90 237) = Wa at *
  clear hWa
  have hsp := spread_calls B HCS.out.2.1 Wa
  rw [← HCS.out.1] at hsp
  refine hsp.mono ?_
  rintro e Wb ⟨he, hb1⟩
  obtain ⟨cw, hcw⟩ : ∃ cw, cw = arr .u32 (spread B) := ⟨_, rfl⟩
  rw [← hcw] at he
  subst he
  have HCW := Aside0.mk (And.intro hcw (And.intro (show cw.size = 64 by rw [hcw, arr_size, spread_len]) (show cw.all (·.oneCell') = true by rw [hcw]; exact arr_one _ _)))
  have HB1 := Aside0.mk hb1
  clear hsp hcw hb1
  go_wp2_with fail
  refine (keys_calls Wb).mono ?_
  rintro e Wc ⟨he, hb2⟩
  obtain ⟨ck, hck⟩ : ∃ ck, ck = arr .u32 keysL := ⟨_, rfl⟩
  rw [← hck] at he
  subst he
  have HCK := Aside0.mk (And.intro hck (And.intro (show ck.size = 64 by rw [hck]; rfl) (show ck.all (·.oneCell') = true by rw [hck]; exact arr_one _ _)))
  have HB2 := Aside0.mk (below_then HB1.out HB1.out.size hb2)
  clear hck hb2 HB1
  have f1 := blk_alloc (blk_new Wc (.cells Z97 248)) (.cells Z97 248)
  have f2 := blk_new (Wc.alloc (.cells Z97 248)) (.cells Z97 248)
  rw [show (Wc.alloc (.cells Z97 248)).heap.size = Wc.heap.size + 1 by simp] at f2
  have F1 := Aside0.mk f1
  have F2 := Aside0.mk ((setRow_other ((Wc.alloc (.cells Z97 248)).alloc (.cells Z97 248)) Wc.heap.size (Wc.heap.size + 1) cw (by omega)).trans f2)
  clear f1 f2
  go_wp2_with (first | (refine wpList_store_row rfl 248 (.tmp 5) (.tmp 23) rfl Wc.heap.size cw rfl rfl 248 Z97 F1.out (by rw [i97, HCW.out.2.1]) (by rw [HCW.out.2.1]; rfl) HCW.out.2.2 ?_) | (refine wpList_store_row rfl 248 (.tmp 6) (.tmp 24) rfl (Wc.heap.size + 1) ck rfl rfl 248 Z97 F2.out (by rw [i97, HCK.out.2.1]) (by rw [HCK.out.2.1]; rfl) HCK.out.2.2 ?_))
  have hbk : BK w st (Wc.heap.size + 1) Wc.heap.size (spread B) ((((Wc.alloc (.cells Z97 248)).alloc (.cells Z97 248)).setRow Wc.heap.size cw).setRow (Wc.heap.size + 1) ck) := by
    have hlt := Nat.le_trans (show w.heap.size + 1 + 1 + 1 ≤ Wa.heap.size by have := blk_lt G.out.2.2.1; omega) HB2.out.size
    have hb3 : Below Wc.heap.size Wc ((((Wc.alloc (.cells Z97 248)).alloc (.cells Z97 248)).setRow Wc.heap.size cw).setRow (Wc.heap.size + 1) ck) :=
      below_setRow (below_setRow ((below_alloc (below_alloc (Below.refl _ _) _) _)) (Nat.le_refl _) _) (by omega) _
    have hb4 := below_then HB2.out HB2.out.size hb3
    refine ⟨blk_below G.out.1 hb4, blk_below G.out.2.2.1 hb4, ?_, ?_, below_then G.out.2.2.2 G.out.2.2.2.size hb4⟩
    · rw [setRow_heap _ _ Z97 ck 248 (0, 0) F2.out, HCK.out.1]
    · rw [setRow_other _ _ _ _ (by omega), setRow_heap _ _ Z97 cw 248 (0, 0) F1.out, HCW.out.1]
  have hne1 : Wc.heap.size + 1 ≠ w.heap.size := by have := blk_lt G.out.1; have := HB2.out.size; omega
  have hne2 : Wc.heap.size ≠ w.heap.size := by have := blk_lt G.out.1; have := HB2.out.size; omega
  generalize (((Wc.alloc (.cells Z97 248)).alloc (.cells Z97 248)).setRow Wc.heap.size cw).setRow (Wc.heap.size + 1) ck = W1 at *
  obtain ⟨gk, hgk⟩ : ∃ gk, gk = Wc.heap.size + 1 := ⟨_, rfl⟩
  obtain ⟨gw, hgw⟩ : ∃ gw, gw = Wc.heap.size := ⟨_, rfl⟩
  rw [← hgk, ← hgw] at hbk
  rw [← hgk] at hne1
  rw [← hgw] at hne2
  have HNE := Aside0.mk (And.intro hne1 hne2)
  simp only [← hgk]
  simp only [← hgw]
  have HBK := Aside0.mk (hbk.on (below_drew (Below.refl _ _)))
  clear hbk hgk hgw hne1 hne2 F1 F2
  have hx : ∀ i, i < 8 → W1.drew.cell? ⟨w.heap.size, i, none⟩ = some (.int .u32 (H.getD i 0)) := fun i hi => by
    rw [cell_of_row _ _ i _ 237 (0, 0) HBK.out.s, HST.out.1, stA_at HST.out.2.1 n hi]
  obtain ⟨a, ha⟩ : ∃ x, x = H.getD 0 0 := ⟨_, rfl⟩
  obtain ⟨b, hb⟩ : ∃ x, x = H.getD 1 0 := ⟨_, rfl⟩
  obtain ⟨c, hc⟩ : ∃ x, x = H.getD 2 0 := ⟨_, rfl⟩
  obtain ⟨d, hd⟩ : ∃ x, x = H.getD 3 0 := ⟨_, rfl⟩
  obtain ⟨e, he⟩ : ∃ x, x = H.getD 4 0 := ⟨_, rfl⟩
  obtain ⟨f, hf⟩ : ∃ x, x = H.getD 5 0 := ⟨_, rfl⟩
  obtain ⟨g, hg⟩ : ∃ x, x = H.getD 6 0 := ⟨_, rfl⟩
  obtain ⟨h, hh⟩ : ∃ x, x = H.getD 7 0 := ⟨_, rfl⟩
  have x0 := hx 0 (by omega)
  have x1 := hx 1 (by omega)
  have x2 := hx 2 (by omega)
  have x3 := hx 3 (by omega)
  have x4 := hx 4 (by omega)
  have x5 := hx 5 (by omega)
  have x6 := hx 6 (by omega)
  have x7 := hx 7 (by omega)
  rw [← ha] at x0
  rw [← hb] at x1
  rw [← hc] at x2
  rw [← hd] at x3
  rw [← he] at x4
  rw [← hf] at x5
  rw [← hg] at x6
  rw [← hh] at x7
  have HOF := Aside0.mk (show (⟨a, b, c, d, e, f, g, h⟩ : S8) = ofL H by rw [ha, hb, hc, hd, he, hf, hg, hh]; rfl)
  clear ha hb hc hd he hf hg hh hx
  refine wp_region_held_drew (S := fun w' => w' = W1.drew) (by kernel_rfl) rfl (fun hW => ?_)
  generalize hWd : W1.drew = Wd at *
  clear hWd
  refine wpAnyH_take (i := 0) (oi := ⟨some 25, _, _, _, _, _⟩) (v := .pointer (some ⟨w.heap.size, 0, none⟩)) rfl (by kernel_rfl) (by kernel_rfl) (by kernel_rfl) (fun _ _ _ h => h) (.inl ⟨by rfl, fun W1 h1 => by subst h1; go_simp⟩) hW ?_
  try simp only [Act.put, List.setIfInBounds_toArray, List.set_cons_zero, List.set_cons_succ]
  refine wpAnyH_take (i := 1) (oi := ⟨some 26, _, _, _, _, _⟩) (v := .pointer (some ⟨w.heap.size, 0, none⟩)) rfl (by kernel_rfl) (by kernel_rfl) (by kernel_rfl) (fun _ _ _ h => h) (.inl ⟨by rfl, fun W1 h1 => by subst h1; go_simp⟩) hW ?_
  try simp only [Act.put, List.setIfInBounds_toArray, List.set_cons_zero, List.set_cons_succ]
  refine wpAnyH_take (i := 2) (oi := ⟨some 27, _, _, _, _, _⟩) (v := .int .u32 a) rfl (by kernel_rfl) (by kernel_rfl) (by kernel_rfl) (fun _ _ _ h => h) (.inl ⟨by rfl, fun W1 h1 => by subst h1; go_simp⟩) hW ?_
  try simp only [Act.put, List.setIfInBounds_toArray, List.set_cons_zero, List.set_cons_succ]
  refine wpAnyH_take (i := 3) (oi := ⟨some 28, _, _, _, _, _⟩) (v := .pointer (some ⟨w.heap.size, 0, none⟩)) rfl (by kernel_rfl) (by kernel_rfl) (by kernel_rfl) (fun _ _ _ h => h) (.inl ⟨by rfl, fun W1 h1 => by subst h1; go_simp⟩) hW ?_
  try simp only [Act.put, List.setIfInBounds_toArray, List.set_cons_zero, List.set_cons_succ]
  refine wpAnyH_take (i := 4) (oi := ⟨some 29, _, _, _, _, _⟩) (v := .pointer (some ⟨w.heap.size, 1, none⟩)) rfl (by kernel_rfl) (by kernel_rfl) (by kernel_rfl) (fun _ _ _ h => h) (.inl ⟨by rfl, fun W1 h1 => by subst h1; go_simp⟩) hW ?_
  try simp only [Act.put, List.setIfInBounds_toArray, List.set_cons_zero, List.set_cons_succ]
  refine wpAnyH_take (i := 5) (oi := ⟨some 30, _, _, _, _, _⟩) (v := .int .u32 b) rfl (by kernel_rfl) (by kernel_rfl) (by kernel_rfl) (fun _ _ _ h => h) (.inl ⟨by rfl, fun W1 h1 => by subst h1; go_simp⟩) hW ?_
  try simp only [Act.put, List.setIfInBounds_toArray, List.set_cons_zero, List.set_cons_succ]
  refine wpAnyH_take (i := 6) (oi := ⟨some 31, _, _, _, _, _⟩) (v := .pointer (some ⟨w.heap.size, 0, none⟩)) rfl (by kernel_rfl) (by kernel_rfl) (by kernel_rfl) (fun _ _ _ h => h) (.inl ⟨by rfl, fun W1 h1 => by subst h1; go_simp⟩) hW ?_
  try simp only [Act.put, List.setIfInBounds_toArray, List.set_cons_zero, List.set_cons_succ]
  refine wpAnyH_take (i := 7) (oi := ⟨some 32, _, _, _, _, _⟩) (v := .pointer (some ⟨w.heap.size, 2, none⟩)) rfl (by kernel_rfl) (by kernel_rfl) (by kernel_rfl) (fun _ _ _ h => h) (.inl ⟨by rfl, fun W1 h1 => by subst h1; go_simp⟩) hW ?_
  try simp only [Act.put, List.setIfInBounds_toArray, List.set_cons_zero, List.set_cons_succ]
  refine wpAnyH_take (i := 8) (oi := ⟨some 33, _, _, _, _, _⟩) (v := .int .u32 c) rfl (by kernel_rfl) (by kernel_rfl) (by kernel_rfl) (fun _ _ _ h => h) (.inl ⟨by rfl, fun W1 h1 => by subst h1; go_simp⟩) hW ?_
  try simp only [Act.put, List.setIfInBounds_toArray, List.set_cons_zero, List.set_cons_succ]
  refine wpAnyH_take (i := 9) (oi := ⟨some 34, _, _, _, _, _⟩) (v := .pointer (some ⟨w.heap.size, 0, none⟩)) rfl (by kernel_rfl) (by kernel_rfl) (by kernel_rfl) (fun _ _ _ h => h) (.inl ⟨by rfl, fun W1 h1 => by subst h1; go_simp⟩) hW ?_
  try simp only [Act.put, List.setIfInBounds_toArray, List.set_cons_zero, List.set_cons_succ]
  refine wpAnyH_take (i := 10) (oi := ⟨some 35, _, _, _, _, _⟩) (v := .pointer (some ⟨w.heap.size, 3, none⟩)) rfl (by kernel_rfl) (by kernel_rfl) (by kernel_rfl) (fun _ _ _ h => h) (.inl ⟨by rfl, fun W1 h1 => by subst h1; go_simp⟩) hW ?_
  try simp only [Act.put, List.setIfInBounds_toArray, List.set_cons_zero, List.set_cons_succ]
  refine wpAnyH_take (i := 11) (oi := ⟨some 36, _, _, _, _, _⟩) (v := .int .u32 d) rfl (by kernel_rfl) (by kernel_rfl) (by kernel_rfl) (fun _ _ _ h => h) (.inl ⟨by rfl, fun W1 h1 => by subst h1; go_simp⟩) hW ?_
  try simp only [Act.put, List.setIfInBounds_toArray, List.set_cons_zero, List.set_cons_succ]
  refine wpAnyH_take (i := 12) (oi := ⟨some 37, _, _, _, _, _⟩) (v := .pointer (some ⟨w.heap.size, 0, none⟩)) rfl (by kernel_rfl) (by kernel_rfl) (by kernel_rfl) (fun _ _ _ h => h) (.inl ⟨by rfl, fun W1 h1 => by subst h1; go_simp⟩) hW ?_
  try simp only [Act.put, List.setIfInBounds_toArray, List.set_cons_zero, List.set_cons_succ]
  refine wpAnyH_take (i := 13) (oi := ⟨some 38, _, _, _, _, _⟩) (v := .pointer (some ⟨w.heap.size, 4, none⟩)) rfl (by kernel_rfl) (by kernel_rfl) (by kernel_rfl) (fun _ _ _ h => h) (.inl ⟨by rfl, fun W1 h1 => by subst h1; go_simp⟩) hW ?_
  try simp only [Act.put, List.setIfInBounds_toArray, List.set_cons_zero, List.set_cons_succ]
  refine wpAnyH_take (i := 14) (oi := ⟨some 39, _, _, _, _, _⟩) (v := .int .u32 e) rfl (by kernel_rfl) (by kernel_rfl) (by kernel_rfl) (fun _ _ _ h => h) (.inl ⟨by rfl, fun W1 h1 => by subst h1; go_simp⟩) hW ?_
  try simp only [Act.put, List.setIfInBounds_toArray, List.set_cons_zero, List.set_cons_succ]
  refine wpAnyH_take (i := 15) (oi := ⟨some 40, _, _, _, _, _⟩) (v := .pointer (some ⟨w.heap.size, 0, none⟩)) rfl (by kernel_rfl) (by kernel_rfl) (by kernel_rfl) (fun _ _ _ h => h) (.inl ⟨by rfl, fun W1 h1 => by subst h1; go_simp⟩) hW ?_
  try simp only [Act.put, List.setIfInBounds_toArray, List.set_cons_zero, List.set_cons_succ]
  refine wpAnyH_take (i := 16) (oi := ⟨some 41, _, _, _, _, _⟩) (v := .pointer (some ⟨w.heap.size, 5, none⟩)) rfl (by kernel_rfl) (by kernel_rfl) (by kernel_rfl) (fun _ _ _ h => h) (.inl ⟨by rfl, fun W1 h1 => by subst h1; go_simp⟩) hW ?_
  try simp only [Act.put, List.setIfInBounds_toArray, List.set_cons_zero, List.set_cons_succ]
  refine wpAnyH_take (i := 17) (oi := ⟨some 42, _, _, _, _, _⟩) (v := .int .u32 f) rfl (by kernel_rfl) (by kernel_rfl) (by kernel_rfl) (fun _ _ _ h => h) (.inl ⟨by rfl, fun W1 h1 => by subst h1; go_simp⟩) hW ?_
  try simp only [Act.put, List.setIfInBounds_toArray, List.set_cons_zero, List.set_cons_succ]
  refine wpAnyH_take (i := 18) (oi := ⟨some 43, _, _, _, _, _⟩) (v := .pointer (some ⟨w.heap.size, 0, none⟩)) rfl (by kernel_rfl) (by kernel_rfl) (by kernel_rfl) (fun _ _ _ h => h) (.inl ⟨by rfl, fun W1 h1 => by subst h1; go_simp⟩) hW ?_
  try simp only [Act.put, List.setIfInBounds_toArray, List.set_cons_zero, List.set_cons_succ]
  refine wpAnyH_take (i := 19) (oi := ⟨some 44, _, _, _, _, _⟩) (v := .pointer (some ⟨w.heap.size, 6, none⟩)) rfl (by kernel_rfl) (by kernel_rfl) (by kernel_rfl) (fun _ _ _ h => h) (.inl ⟨by rfl, fun W1 h1 => by subst h1; go_simp⟩) hW ?_
  try simp only [Act.put, List.setIfInBounds_toArray, List.set_cons_zero, List.set_cons_succ]
  refine wpAnyH_take (i := 20) (oi := ⟨some 45, _, _, _, _, _⟩) (v := .int .u32 g) rfl (by kernel_rfl) (by kernel_rfl) (by kernel_rfl) (fun _ _ _ h => h) (.inl ⟨by rfl, fun W1 h1 => by subst h1; go_simp⟩) hW ?_
  try simp only [Act.put, List.setIfInBounds_toArray, List.set_cons_zero, List.set_cons_succ]
  refine wpAnyH_take (i := 21) (oi := ⟨some 46, _, _, _, _, _⟩) (v := .pointer (some ⟨w.heap.size, 0, none⟩)) rfl (by kernel_rfl) (by kernel_rfl) (by kernel_rfl) (fun _ _ _ h => h) (.inl ⟨by rfl, fun W1 h1 => by subst h1; go_simp⟩) hW ?_
  try simp only [Act.put, List.setIfInBounds_toArray, List.set_cons_zero, List.set_cons_succ]
  refine wpAnyH_take (i := 22) (oi := ⟨some 47, _, _, _, _, _⟩) (v := .pointer (some ⟨w.heap.size, 7, none⟩)) rfl (by kernel_rfl) (by kernel_rfl) (by kernel_rfl) (fun _ _ _ h => h) (.inl ⟨by rfl, fun W1 h1 => by subst h1; go_simp⟩) hW ?_
  try simp only [Act.put, List.setIfInBounds_toArray, List.set_cons_zero, List.set_cons_succ]
  refine wpAnyH_take (i := 23) (oi := ⟨some 48, _, _, _, _, _⟩) (v := .int .u32 h) rfl (by kernel_rfl) (by kernel_rfl) (by kernel_rfl) (fun _ _ _ h => h) (.inl ⟨by rfl, fun W1 h1 => by subst h1; go_simp⟩) hW ?_
  try simp only [Act.put, List.setIfInBounds_toArray, List.set_cons_zero, List.set_cons_succ]
  refine wpAnyH_take (i := 24) (oi := ⟨some 7, _, _, _, _, _⟩) (v := .int .u32 a) rfl (by kernel_rfl) (by kernel_rfl) (by kernel_rfl) (fun _ _ _ h => h) (.inl ⟨by rfl, fun W1 h1 => by subst h1; go_simp⟩) hW ?_
  try simp only [Act.put, List.setIfInBounds_toArray, List.set_cons_zero, List.set_cons_succ]
  refine wpAnyH_take (i := 25) (oi := ⟨some 8, _, _, _, _, _⟩) (v := .int .u32 b) rfl (by kernel_rfl) (by kernel_rfl) (by kernel_rfl) (fun _ _ _ h => h) (.inl ⟨by rfl, fun W1 h1 => by subst h1; go_simp⟩) hW ?_
  try simp only [Act.put, List.setIfInBounds_toArray, List.set_cons_zero, List.set_cons_succ]
  refine wpAnyH_take (i := 26) (oi := ⟨some 9, _, _, _, _, _⟩) (v := .int .u32 c) rfl (by kernel_rfl) (by kernel_rfl) (by kernel_rfl) (fun _ _ _ h => h) (.inl ⟨by rfl, fun W1 h1 => by subst h1; go_simp⟩) hW ?_
  try simp only [Act.put, List.setIfInBounds_toArray, List.set_cons_zero, List.set_cons_succ]
  refine wpAnyH_take (i := 27) (oi := ⟨some 10, _, _, _, _, _⟩) (v := .int .u32 d) rfl (by kernel_rfl) (by kernel_rfl) (by kernel_rfl) (fun _ _ _ h => h) (.inl ⟨by rfl, fun W1 h1 => by subst h1; go_simp⟩) hW ?_
  try simp only [Act.put, List.setIfInBounds_toArray, List.set_cons_zero, List.set_cons_succ]
  refine wpAnyH_take (i := 28) (oi := ⟨some 11, _, _, _, _, _⟩) (v := .int .u32 e) rfl (by kernel_rfl) (by kernel_rfl) (by kernel_rfl) (fun _ _ _ h => h) (.inl ⟨by rfl, fun W1 h1 => by subst h1; go_simp⟩) hW ?_
  try simp only [Act.put, List.setIfInBounds_toArray, List.set_cons_zero, List.set_cons_succ]
  refine wpAnyH_take (i := 29) (oi := ⟨some 12, _, _, _, _, _⟩) (v := .int .u32 f) rfl (by kernel_rfl) (by kernel_rfl) (by kernel_rfl) (fun _ _ _ h => h) (.inl ⟨by rfl, fun W1 h1 => by subst h1; go_simp⟩) hW ?_
  try simp only [Act.put, List.setIfInBounds_toArray, List.set_cons_zero, List.set_cons_succ]
  refine wpAnyH_take (i := 30) (oi := ⟨some 13, _, _, _, _, _⟩) (v := .int .u32 g) rfl (by kernel_rfl) (by kernel_rfl) (by kernel_rfl) (fun _ _ _ h => h) (.inl ⟨by rfl, fun W1 h1 => by subst h1; go_simp⟩) hW ?_
  try simp only [Act.put, List.setIfInBounds_toArray, List.set_cons_zero, List.set_cons_succ]
  refine wpAnyH_take (i := 31) (oi := ⟨some 14, _, _, _, _, _⟩) (v := .int .u32 h) rfl (by kernel_rfl) (by kernel_rfl) (by kernel_rfl) (fun _ _ _ h => h) (.inl ⟨by rfl, fun W1 h1 => by subst h1; go_simp⟩) hW ?_
  try simp only [Act.put, List.setIfInBounds_toArray, List.set_cons_zero, List.set_cons_succ]
  refine wpAnyH_done (by kernel_rfl) ?_ _
  clear x0 x1 x2 x3 x4 x5 x6 x7
  go_wp2
  go_loopw [7, 8, 9, 10, 11, 12, 13, 14, 49] (fun v7 v8 v9 v10 v11 v12 v13 v14 v49 wr => ∃ (t : Nat) (a b c d e f g hv : Int), v7 = .int .u32 a ∧ v8 = .int .u32 b ∧ v9 = .int .u32 c ∧ v10 = .int .u32 d ∧ v11 = .int .u32 e ∧ v12 = .int .u32 f ∧ v13 = .int .u32 g ∧ v14 = .int .u32 hv ∧ v49 = .int .i64 (t : Int) ∧ t ≤ 64 ∧ Aside0 ((⟨a, b, c, d, e, f, g, hv⟩ : S8) = rounds8 (spread B) (ofL H) t) ∧ Aside0 (BK w st gk gw (spread B) wr)) (fun _ _ _ _ _ _ _ _ v _ => 64 - (intOf v).toNat)
  case atStart => exact ⟨0, a, b, c, d, e, f, g, h, rfl, rfl, rfl, rfl, rfl, rfl, rfl, rfl, rfl, by omega, ⟨HOF.out⟩, HBK⟩
  case round =>
    clear HBK HOF
    obtain ⟨t, a, b, c, d, e, f, g, hv, rfl, rfl, rfl, rfl, rfl, rfl, rfl, rfl, rfl, ht, HS, HK⟩ := hrel
    by_cases hlt : t < 64
    · have hd : decide ((t : Int) < 64) = true := decide_eq_true (by omega)
      have HKD := Aside0.mk (HK.out.on (below_drew (Below.refl _ _)))
      have qk : wr.drew.cell? ⟨gk, t, none⟩ = some (.int .u32 (keysL.getD t 0)) := by
        rw [cell_of_row _ _ t _ 248 (0, 0) HKD.out.k, arr_at (by show t < 64; exact hlt)]
      have qw : wr.drew.cell? ⟨gw, t, none⟩ = some (.int .u32 ((spread B).getD t 0)) := by
        rw [cell_of_row _ _ t _ 248 (0, 0) HKD.out.w_, arr_at (by rw [spread_len]; exact hlt)]
      obtain ⟨kt, hkt⟩ : ∃ x, x = keysL.getD t 0 := ⟨_, rfl⟩
      obtain ⟨wt, hwt⟩ : ∃ x, x = (spread B).getD t 0 := ⟨_, rfl⟩
      rw [← hkt] at qk
      rw [← hwt] at qw
      have HN := Aside0.mk (show stp kt wt ⟨a, b, c, d, e, f, g, hv⟩ = rounds8 (spread B) (ofL H) (t + 1) by rw [rounds8, ← HS.out, hkt, hwt])
      clear hkt hwt
      go_wp2
      obtain ⟨ch, hch⟩ : ∃ x, x = chi e f g := ⟨_, rfl⟩
      have HCH := Aside0.mk hch
      rw [show xr (an e f) (an (xr IntKind.u32.max e) g) = ch from hch.symm]
      obtain ⟨mj, hmj⟩ : ∃ x, x = maj a b c := ⟨_, rfl⟩
      have HMJ := Aside0.mk hmj
      rw [show xr (xr (an a b) (an a c)) (an b c) = mj from hmj.symm]
      clear hch hmj
      refine wp_region_held_drew (S := fun w' => w'.cell? ⟨gk, t, none⟩ = some (.int .u32 kt) ∧ w'.cell? ⟨gw, t, none⟩ = some (.int .u32 wt)) (by kernel_rfl) ⟨qk, qw⟩ (fun hW => ?_)
      generalize hWd : wr.drew = Wd at *
      clear hWd
      refine wpAnyH_take (i := 0) (oi := ⟨some 71, _, _, _, _, _⟩) (v := .int .u32 hv) rfl (by kernel_rfl) (by kernel_rfl) (by kernel_rfl) (fun _ _ _ h => h) (.inl ⟨by rfl, fun W1 h1 => by (obtain ⟨hk1, hw1⟩ := h1); go_simp⟩) hW ?_
      try simp only [Act.put, List.setIfInBounds_toArray, List.set_cons_zero, List.set_cons_succ]
      refine wpAnyH_take (i := 1) (oi := ⟨some 72, _, _, _, _, _⟩) (v := .int .u32 e) rfl (by kernel_rfl) (by kernel_rfl) (by kernel_rfl) (fun _ _ _ h => h) (.inl ⟨by rfl, fun W1 h1 => by (obtain ⟨hk1, hw1⟩ := h1); go_simp⟩) hW ?_
      try simp only [Act.put, List.setIfInBounds_toArray, List.set_cons_zero, List.set_cons_succ]
      refine wpAnyH_take (i := 3) (oi := ⟨some 74, _, _, _, _, _⟩) (v := .int .u32 e) rfl (by kernel_rfl) (by kernel_rfl) (by kernel_rfl) (fun _ _ _ h => h) (.inl ⟨by rfl, fun W1 h1 => by (obtain ⟨hk1, hw1⟩ := h1); go_simp⟩) hW ?_
      try simp only [Act.put, List.setIfInBounds_toArray, List.set_cons_zero, List.set_cons_succ]
      refine wpAnyH_take (i := 6) (oi := ⟨some 77, _, _, _, _, _⟩) (v := .int .u32 e) rfl (by kernel_rfl) (by kernel_rfl) (by kernel_rfl) (fun _ _ _ h => h) (.inl ⟨by rfl, fun W1 h1 => by (obtain ⟨hk1, hw1⟩ := h1); go_simp⟩) hW ?_
      try simp only [Act.put, List.setIfInBounds_toArray, List.set_cons_zero, List.set_cons_succ]
      refine wpAnyH_take (i := 10) (oi := ⟨some 81, _, _, _, _, _⟩) (v := .int .u32 ch) rfl (by kernel_rfl) (by kernel_rfl) (by kernel_rfl) (fun _ _ _ h => h) (.inl ⟨by rfl, fun W1 h1 => by (obtain ⟨hk1, hw1⟩ := h1); go_simp⟩) hW ?_
      try simp only [Act.put, List.setIfInBounds_toArray, List.set_cons_zero, List.set_cons_succ]
      refine wpAnyH_take (i := 12) (oi := ⟨some 83, _, _, _, _, _⟩) (v := .int .i64 (t : Int)) rfl (by kernel_rfl) (by kernel_rfl) (by kernel_rfl) (fun _ _ _ h => h) (.inl ⟨by rfl, fun W1 h1 => by (obtain ⟨hk1, hw1⟩ := h1); go_simp⟩) hW ?_
      try simp only [Act.put, List.setIfInBounds_toArray, List.set_cons_zero, List.set_cons_succ]
      refine wpAnyH_take (i := 13) (oi := ⟨some 84, _, _, _, _, _⟩) (v := .pointer (some ⟨gk, t, none⟩)) rfl (by kernel_rfl) (by kernel_rfl) (by kernel_rfl) (fun _ _ _ h => h) (.inl ⟨by rfl, fun W1 h1 => by (obtain ⟨hk1, hw1⟩ := h1); go_simp; intro hbad; omega⟩) hW ?_
      try simp only [Act.put, List.setIfInBounds_toArray, List.set_cons_zero, List.set_cons_succ]
      refine wpAnyH_take (i := 14) (oi := ⟨some 85, _, _, _, _, _⟩) (v := .int .u32 kt) rfl (by kernel_rfl) (by kernel_rfl) (by kernel_rfl) (fun _ _ _ h => h) (.inl ⟨by rfl, fun W1 h1 => by (obtain ⟨hk1, hw1⟩ := h1); go_simp⟩) hW ?_
      try simp only [Act.put, List.setIfInBounds_toArray, List.set_cons_zero, List.set_cons_succ]
      refine wpAnyH_take (i := 16) (oi := ⟨some 87, _, _, _, _, _⟩) (v := .int .i64 (t : Int)) rfl (by kernel_rfl) (by kernel_rfl) (by kernel_rfl) (fun _ _ _ h => h) (.inl ⟨by rfl, fun W1 h1 => by (obtain ⟨hk1, hw1⟩ := h1); go_simp⟩) hW ?_
      try simp only [Act.put, List.setIfInBounds_toArray, List.set_cons_zero, List.set_cons_succ]
      refine wpAnyH_take (i := 17) (oi := ⟨some 88, _, _, _, _, _⟩) (v := .pointer (some ⟨gw, t, none⟩)) rfl (by kernel_rfl) (by kernel_rfl) (by kernel_rfl) (fun _ _ _ h => h) (.inl ⟨by rfl, fun W1 h1 => by (obtain ⟨hk1, hw1⟩ := h1); go_simp; intro hbad; omega⟩) hW ?_
      try simp only [Act.put, List.setIfInBounds_toArray, List.set_cons_zero, List.set_cons_succ]
      refine wpAnyH_take (i := 18) (oi := ⟨some 89, _, _, _, _, _⟩) (v := .int .u32 wt) rfl (by kernel_rfl) (by kernel_rfl) (by kernel_rfl) (fun _ _ _ h => h) (.inl ⟨by rfl, fun W1 h1 => by (obtain ⟨hk1, hw1⟩ := h1); go_simp⟩) hW ?_
      try simp only [Act.put, List.setIfInBounds_toArray, List.set_cons_zero, List.set_cons_succ]
      refine wpAnyH_ready (rs := [2]) (by kernel_rfl) (by simp) (AllReadyH.cons rfl (fun K1 hK1 => ?_) AllReadyH.nil)
      go_simp
      refine (down_calls e 6 6 rfl (by decide) (by decide) _).mono ?_
      rintro e w' ⟨rfl, rfl⟩
      refine hK1.out _ _ hW (fun hW => ?_)
      try simp only [Act.put, List.setIfInBounds_toArray, List.set_cons_zero, List.set_cons_succ]
      refine wpAnyH_ready (rs := [4]) (by kernel_rfl) (by simp) (AllReadyH.cons rfl (fun K2 hK2 => ?_) AllReadyH.nil)
      go_simp
      refine (down_calls e 11 11 rfl (by decide) (by decide) _).mono ?_
      rintro e w' ⟨rfl, rfl⟩
      refine hK2.out _ _ hW (fun hW => ?_)
      try simp only [Act.put, List.setIfInBounds_toArray, List.set_cons_zero, List.set_cons_succ]
      refine wpAnyH_take (i := 5) (oi := ⟨some 76, _, _, _, _, _⟩) (v := .int .u32 (xr (dn 6 e) (dn 11 e))) rfl (by kernel_rfl) (by kernel_rfl) (by kernel_rfl) (fun _ _ _ h => h) (.inl ⟨by rfl, fun W1 h1 => by (obtain ⟨hk1, hw1⟩ := h1); go_simp⟩) hW ?_
      try simp only [Act.put, List.setIfInBounds_toArray, List.set_cons_zero, List.set_cons_succ]
      refine wpAnyH_ready (rs := [7]) (by kernel_rfl) (by simp) (AllReadyH.cons rfl (fun K3 hK3 => ?_) AllReadyH.nil)
      go_simp
      refine (down_calls e 25 25 rfl (by decide) (by decide) _).mono ?_
      rintro e w' ⟨rfl, rfl⟩
      refine hK3.out _ _ hW (fun hW => ?_)
      try simp only [Act.put, List.setIfInBounds_toArray, List.set_cons_zero, List.set_cons_succ]
      refine wpAnyH_take (i := 8) (oi := ⟨some 79, _, _, _, _, _⟩) (v := .int .u32 (xr (xr (dn 6 e) (dn 11 e)) (dn 25 e))) rfl (by kernel_rfl) (by kernel_rfl) (by kernel_rfl) (fun _ _ _ h => h) (.inl ⟨by rfl, fun W1 h1 => by (obtain ⟨hk1, hw1⟩ := h1); go_simp⟩) hW ?_
      try simp only [Act.put, List.setIfInBounds_toArray, List.set_cons_zero, List.set_cons_succ]
      refine wpAnyH_take (i := 9) (oi := ⟨some 80, _, _, _, _, _⟩) (v := .int .u32 (ad hv (xr (xr (dn 6 e) (dn 11 e)) (dn 25 e)))) rfl (by kernel_rfl) (by kernel_rfl) (by kernel_rfl) (fun _ _ _ h => h) (.inl ⟨by rfl, fun W1 h1 => by (obtain ⟨hk1, hw1⟩ := h1); go_simp⟩) hW ?_
      try simp only [Act.put, List.setIfInBounds_toArray, List.set_cons_zero, List.set_cons_succ]
      refine wpAnyH_take (i := 11) (oi := ⟨some 82, _, _, _, _, _⟩) (v := .int .u32 (ad (ad hv (xr (xr (dn 6 e) (dn 11 e)) (dn 25 e))) ch)) rfl (by kernel_rfl) (by kernel_rfl) (by kernel_rfl) (fun _ _ _ h => h) (.inl ⟨by rfl, fun W1 h1 => by (obtain ⟨hk1, hw1⟩ := h1); go_simp⟩) hW ?_
      try simp only [Act.put, List.setIfInBounds_toArray, List.set_cons_zero, List.set_cons_succ]
      refine wpAnyH_take (i := 15) (oi := ⟨some 86, _, _, _, _, _⟩) (v := .int .u32 (ad (ad (ad hv (xr (xr (dn 6 e) (dn 11 e)) (dn 25 e))) ch) kt)) rfl (by kernel_rfl) (by kernel_rfl) (by kernel_rfl) (fun _ _ _ h => h) (.inl ⟨by rfl, fun W1 h1 => by (obtain ⟨hk1, hw1⟩ := h1); go_simp⟩) hW ?_
      try simp only [Act.put, List.setIfInBounds_toArray, List.set_cons_zero, List.set_cons_succ]
      refine wpAnyH_take (i := 19) (oi := ⟨some 90, _, _, _, _, _⟩) (v := .int .u32 (ad (ad (ad (ad hv (xr (xr (dn 6 e) (dn 11 e)) (dn 25 e))) ch) kt) wt)) rfl (by kernel_rfl) (by kernel_rfl) (by kernel_rfl) (fun _ _ _ h => h) (.inl ⟨by rfl, fun W1 h1 => by (obtain ⟨hk1, hw1⟩ := h1); go_simp⟩) hW ?_
      try simp only [Act.put, List.setIfInBounds_toArray, List.set_cons_zero, List.set_cons_succ]
      refine wpAnyH_take (i := 20) (oi := ⟨some 18, _, _, _, _, _⟩) (v := .int .u32 (ad (ad (ad (ad hv (xr (xr (dn 6 e) (dn 11 e)) (dn 25 e))) ch) kt) wt)) rfl (by kernel_rfl) (by kernel_rfl) (by kernel_rfl) (fun _ _ _ h => h) (.inl ⟨by rfl, fun W1 h1 => by (obtain ⟨hk1, hw1⟩ := h1); go_simp⟩) hW ?_
      try simp only [Act.put, List.setIfInBounds_toArray, List.set_cons_zero, List.set_cons_succ]
      refine wpAnyH_done (by kernel_rfl) ?_ _
      obtain ⟨ft, hft⟩ : ∃ x, x = ad (ad (ad (ad hv (xr (xr (dn 6 e) (dn 11 e)) (dn 25 e))) ch) kt) wt := ⟨_, rfl⟩
      have HFT := Aside0.mk (show ft = fst_ ⟨a, b, c, d, e, f, g, hv⟩ kt wt by rw [hft, HCH.out]; rfl)
      rw [← hft]
      have HW := Aside0.mk (HKD.out)
      clear hft qk qw hW hK1 hK2 hK3 K1 K2 K3
      go_wp2_with fail
      refine (down_calls a 2 2 rfl (by decide) (by decide) _).mono ?_
      rintro e' w' ⟨rfl, rfl⟩
      go_wp2_with fail
      refine (down_calls a 13 13 rfl (by decide) (by decide) _).mono ?_
      rintro e' w' ⟨rfl, rfl⟩
      go_wp2_with fail
      refine (down_calls a 22 22 rfl (by decide) (by decide) _).mono ?_
      rintro e' w' ⟨rfl, rfl⟩
      go_wp2
      go_roundw
      case rel =>
        refine ⟨t + 1, _, a, b, c, _, e, f, g, rfl, rfl, rfl, rfl, rfl, rfl, rfl, rfl, by go_num, by omega, ⟨?_⟩, HW⟩
        rw [← HN.out, HFT.out, HMJ.out]
        rfl
      case measure => simp [intOf]; omega
    · obtain rfl : t = 64 := by omega
      rw [show ((64 : Nat) : Int) = 64 from rfl]
      have hd : decide ((64 : Int) < 64) = false := by decide
      have hidx : ∀ (i : Nat), i < 8 → ∀ W : World, (Instr.index 235 (.agg #[.int .u32 a, .int .u32 b, .int .u32 c, .int .u32 d, .int .u32 e, .int .u32 f, .int .u32 g, .int .u32 hv]) (.int .i64 (i : Int))).run Tryz.prog W = .ok (.int .u32 ([a, b, c, d, e, f, g, hv].getD i 0)) W := fun i hi W =>
        run_index_arr 235 29 8 .u32 und87 Tryz.underlying29 sz30 [a, b, c, d, e, f, g, hv] rfl i hi W
      obtain ⟨L8, hL8⟩ : ∃ x, x = [a, b, c, d, e, f, g, hv] := ⟨_, rfl⟩
      rw [← hL8] at hidx
      have HIDX := Aside0.mk hidx
      have HL8 := Aside0.mk (show L8 = toL (rounds8 (spread B) (ofL H) 64) by rw [hL8, ← HS.out]; rfl)
      have HK0 := Aside0.mk (show BK w (stA (addH H L8 0) n) gk gw (spread B) wr by rw [addH, ← HST.out.1]; exact HK.out)
      clear hidx hL8 HS HK
      go_wp2
      clear hd
      go_loopw [123] (fun v123 wr => ∃ (i : Nat), v123 = .int .i64 (i : Int) ∧ i ≤ 8 ∧ Aside0 (BK w (stA (addH H L8 i) n) gk gw (spread B) wr)) (fun v _ => 8 - (intOf v).toNat)
      case atStart => exact ⟨0, rfl, by omega, HK0⟩
      case round =>
        clear HK0
        obtain ⟨i, rfl, hi, HK⟩ := hrel
        have hHl : (addH H L8 i).length = 8 := by rw [addH_len]; exact HST.out.2.1
        have HHL := Aside0.mk hHl
        clear hHl
        by_cases hlt : i < 8
        · have hd : decide ((i : Int) < 8) = true := decide_eq_true (by omega)
          have hidx := HIDX.out i hlt wr
          obtain ⟨y, hy⟩ : ∃ y, y = L8.getD i 0 := ⟨_, rfl⟩
          rw [← hy] at hidx
          obtain ⟨x, hx⟩ : ∃ x, x = (addH H L8 i).getD i 0 := ⟨_, rfl⟩
          have q0 : wr.cell? ⟨w.heap.size, i, none⟩ = some (.int .u32 x) := by rw [cell_of_row _ _ i _ 237 (0, 0) HK.out.s, stA_at HHL.out n hlt, hx]
          have q1 : wr.frozen? ⟨w.heap.size, i, none⟩ = false := frozen_of_row _ _ i _ 237 HK.out.s
          have HN := Aside0.mk (show (addH H L8 i).set i (ad x y) = addH H L8 (i + 1) by rw [addH, hx, hy])
          have HK2 := Aside0.mk (HK.out.set HNE.out.1 HNE.out.2 i (.int .u32 (ad x y)))
          rw [stA_set HHL.out n i hlt, HN.out] at HK2
          clear hx hy
          go_wp2
          go_roundw
          case rel => exact ⟨i + 1, by go_num, by omega, HK2⟩
          case measure => simp [intOf]; omega
        · obtain rfl : i = 8 := by omega
          rw [show ((8 : Nat) : Int) = 8 from rfl]
          have hd : decide ((8 : Int) < 8) = false := by decide
          have q0 : wr.cell? ⟨w.heap.size, 8, none⟩ = some (.int .u64 n) := by rw [cell_of_row _ _ 8 _ 237 (0, 0) HK.out.s, stA_n HHL.out n]
          have q1 : wr.frozen? ⟨w.heap.size, 8, none⟩ = false := frozen_of_row _ _ 8 _ 237 HK.out.s
          have hk2 := HK.out.set HNE.out.1 HNE.out.2 8 (.int .u64 (IntKind.u64.wrap (n + 64)))
          rw [stA_setn HHL.out] at hk2
          obtain ⟨m, hm⟩ : ∃ m, m = IntKind.u64.wrap (n + 64) := ⟨_, rfl⟩
          rw [← hm] at hk2
          have hww : IntKind.u64.wrap (n + 64) = m := hm.symm
          obtain ⟨sf, hsf⟩ : ∃ sf, sf = stA (addH H L8 8) m := ⟨_, rfl⟩
          rw [← hsf] at hk2
          have HF := Aside0.mk (And.intro hsf (And.intro hm (And.intro (show sf.size = 9 by rw [hsf, stA_size HHL.out]) (show sf.all (·.oneCell') = true by rw [hsf]; exact stA_one _ _))))
          have HK2 := Aside0.mk hk2
          clear hsf hm hk2
          go_wp2_with (first | (refine wpList_load_row rfl 237 (.tmp 2) rfl w.heap.size rfl 237 sf (0, 0) _ HK2.out.s Tryz.underlying237 rfl (by rw [i90, HF.out.2.2.1]) ?_) | (refine wpList_store_row rfl 237 (.tmp 4) (.tmp 140) rfl (w.heap.size + 1 + 1) sf rfl rfl 237 Z90 HK2.out.r (by rw [i90, HF.out.2.2.1]) (by rw [HF.out.2.2.1]; rfl) HF.out.2.2.2 ?_))
          refine bodyPost_ret (res_c (p := 4) _ rfl rfl (setRow_heap _ (w.heap.size + 1 + 1) Z90 sf 237 _ HK2.out.r) Tryz.underlying237 rfl (by rw [i90, HF.out.2.2.1])) rfl ?_
          rw [HP.out]
          exact ⟨by rw [HF.out.1, HF.out.2.1, blockH, ← HL8.out], below_setRow HK2.out.below (by omega) _⟩
end Go.Proofs.YtchhdafgmifhdaaGreat.ShaC
