/- Written by a program of ours (wip/eng/gen.py): closed facts on the types; the cells of the structures. -/
import Derived.Test.YtoncfkdgddfnlaaModel
import Derived.Test.YtoncfkdgddfnlaaProg
import Derived.KernelRfl
namespace Go.Proofs.Ytoncfkdgddfnlaa.W
open Go Go.Proofs Go.Proofs.Ytoncfkdgddfnlaa.E Go.Proofs.Ytoncfkdgddfnlaa.M
set_option linter.unusedVariables false
def cSItem (x : SItem) (j : Nat) : Cell := match j with
  | 0 => .int .i64 x.Kind
  | 1 => .int .i64 x.Price
  | 2 => .int .i64 x.Tax
  | 3 => .int .i64 x.Quantity
  | 4 => .int .i64 x.Net
  | 5 => .int .i64 x.Vat
  | 6 => .int .i64 x.Gross
  | _ => .any
def vSItem (l : List SItem) : Cell := .vec l.length 7 (gL cSItem dSItem l)
def aSItem (T : Nat) (l : List SItem) : Ob := .arr T 7 l.length (gL cSItem dSItem l)
def bSItem (x : SItem) : List Cell := [.int .i64 x.Kind, .int .i64 x.Price, .int .i64 x.Tax, .int .i64 x.Quantity, .int .i64 x.Net, .int .i64 x.Vat, .int .i64 x.Gross]
def cSCDR (x : SCDR) (j : Nat) : Cell := match j with
  | 0 => .str x.ID
  | 1 => .str x.Operator
  | 2 => .str x.Provider
  | 3 => .str x.Session
  | 4 => .int .i64 x.Version
  | 5 => .int .i64 x.Start
  | 6 => .int .i64 x.End
  | 7 => .int .i64 x.Energy
  | 8 => .str x.Tariff
  | 9 => .str x.Currency
  | 10 => vSItem x.Items
  | 11 => .int .i64 x.Total
  | 12 => .bool x.Credit
  | 13 => .str x.Ref
  | _ => .any
def vSCDR (l : List SCDR) : Cell := .vec l.length 14 (gL cSCDR dSCDR l)
def aSCDR (T : Nat) (l : List SCDR) : Ob := .arr T 14 l.length (gL cSCDR dSCDR l)
def bSCDR (x : SCDR) : List Cell := [.str x.ID, .str x.Operator, .str x.Provider, .str x.Session, .int .i64 x.Version, .int .i64 x.Start, .int .i64 x.End, .int .i64 x.Energy, .str x.Tariff, .str x.Currency, vSItem x.Items, .int .i64 x.Total, .bool x.Credit, .str x.Ref]
def cSDispute (x : SDispute) (j : Nat) : Cell := match j with
  | 0 => .str x.CDR
  | 1 => .str x.By
  | 2 => .int .i64 x.State
  | 3 => .int .i64 x.Opened
  | 4 => .int .i64 x.Claim
  | 5 => .int .i64 x.Granted
  | _ => .any
def vSDispute (l : List SDispute) : Cell := .vec l.length 6 (gL cSDispute dSDispute l)
def aSDispute (T : Nat) (l : List SDispute) : Ob := .arr T 6 l.length (gL cSDispute dSDispute l)
def bSDispute (x : SDispute) : List Cell := [.str x.CDR, .str x.By, .int .i64 x.State, .int .i64 x.Opened, .int .i64 x.Claim, .int .i64 x.Granted]
def cSSpan (x : SSpan) (j : Nat) : Cell := match j with
  | 0 => .int .i64 x.From
  | 1 => .int .i64 x.To
  | _ => .any
def vSSpan (l : List SSpan) : Cell := .vec l.length 2 (gL cSSpan dSSpan l)
def aSSpan (T : Nat) (l : List SSpan) : Ob := .arr T 2 l.length (gL cSSpan dSSpan l)
def bSSpan (x : SSpan) : List Cell := [.int .i64 x.From, .int .i64 x.To]
def cSCase (x : SCase) (j : Nat) : Cell := match j with
  | 0 => vSCDR x.CDRs
  | 1 => vSDispute x.Disputes
  | 2 => .str x.A
  | 3 => .str x.B
  | 4 => .str x.Currency
  | 5 => .int .i64 x.Span_From
  | 6 => .int .i64 x.Span_To
  | _ => .any
def vSCase (l : List SCase) : Cell := .vec l.length 7 (gL cSCase dSCase l)
def aSCase (T : Nat) (l : List SCase) : Ob := .arr T 7 l.length (gL cSCase dSCase l)
def bSCase (x : SCase) : List Cell := [vSCDR x.CDRs, vSDispute x.Disputes, .str x.A, .str x.B, .str x.Currency, .int .i64 x.Span_From, .int .i64 x.Span_To]
def cSBalance (x : SBalance) (j : Nat) : Cell := match j with
  | 0 => .str x.Creditor
  | 1 => .str x.Debtor
  | 2 => .str x.Currency
  | 3 => .int .i64 x.Amount
  | _ => .any
def vSBalance (l : List SBalance) : Cell := .vec l.length 4 (gL cSBalance dSBalance l)
def aSBalance (T : Nat) (l : List SBalance) : Ob := .arr T 4 l.length (gL cSBalance dSBalance l)
def bSBalance (x : SBalance) : List Cell := [.str x.Creditor, .str x.Debtor, .str x.Currency, .int .i64 x.Amount]
theorem oneSBalance : ∀ (a : SBalance) (j : Nat), j < 4 → (cSBalance a j).one = true := by
  intro a j h
  match j, h with
  | 0, _ => rfl
  | 1, _ => rfl
  | 2, _ => rfl
  | 3, _ => rfl
theorem oneSItem : ∀ (a : SItem) (j : Nat), j < 7 → (cSItem a j).one = true := by
  intro a j h
  match j, h with
  | 0, _ => rfl
  | 1, _ => rfl
  | 2, _ => rfl
  | 3, _ => rfl
  | 4, _ => rfl
  | 5, _ => rfl
  | 6, _ => rfl
theorem oneSCDR : ∀ (a : SCDR) (j : Nat), j < 14 → (cSCDR a j).one = true := by
  intro a j h
  match j, h with
  | 0, _ => rfl
  | 1, _ => rfl
  | 2, _ => rfl
  | 3, _ => rfl
  | 4, _ => rfl
  | 5, _ => rfl
  | 6, _ => rfl
  | 7, _ => rfl
  | 8, _ => rfl
  | 9, _ => rfl
  | 10, _ => rfl
  | 11, _ => rfl
  | 12, _ => rfl
  | 13, _ => rfl
theorem oneSDispute : ∀ (a : SDispute) (j : Nat), j < 6 → (cSDispute a j).one = true := by
  intro a j h
  match j, h with
  | 0, _ => rfl
  | 1, _ => rfl
  | 2, _ => rfl
  | 3, _ => rfl
  | 4, _ => rfl
  | 5, _ => rfl
theorem mixed : Try.prog.follows .mixedOrders = true := by kernel_rfl
theorem eqt35 : eqTypeB Try.prog 35 [.str ByteArray.empty, .str ByteArray.empty, .str ByteArray.empty, .int .i64 0] = true := by kernel_rfl
theorem fd35_0 : fdB Try.prog 35 0 0 = true := by kernel_rfl
theorem fd35_1 : fdB Try.prog 35 1 1 = true := by kernel_rfl
theorem fd35_2 : fdB Try.prog 35 2 2 = true := by kernel_rfl
theorem fd35_3 : fdB Try.prog 35 3 3 = true := by kernel_rfl
theorem fd39_0 : fdB Try.prog 39 0 0 = true := by kernel_rfl
theorem fd39_1 : fdB Try.prog 39 1 1 = true := by kernel_rfl
theorem fd41_0 : fdB Try.prog 41 0 0 = true := by kernel_rfl
theorem fd41_1 : fdB Try.prog 41 1 1 = true := by kernel_rfl
theorem fd41_2 : fdB Try.prog 41 2 2 = true := by kernel_rfl
theorem fd41_3 : fdB Try.prog 41 3 3 = true := by kernel_rfl
theorem fd41_4 : fdB Try.prog 41 4 4 = true := by kernel_rfl
theorem fd41_5 : fdB Try.prog 41 5 5 = true := by kernel_rfl
theorem fd47_0 : fdB Try.prog 47 0 0 = true := by kernel_rfl
theorem fd47_1 : fdB Try.prog 47 1 1 = true := by kernel_rfl
theorem fd47_10 : fdB Try.prog 47 10 10 = true := by kernel_rfl
theorem fd47_11 : fdB Try.prog 47 11 11 = true := by kernel_rfl
theorem fd47_12 : fdB Try.prog 47 12 12 = true := by kernel_rfl
theorem fd47_13 : fdB Try.prog 47 13 13 = true := by kernel_rfl
theorem fd47_2 : fdB Try.prog 47 2 2 = true := by kernel_rfl
theorem fd47_3 : fdB Try.prog 47 3 3 = true := by kernel_rfl
theorem fd47_4 : fdB Try.prog 47 4 4 = true := by kernel_rfl
theorem fd47_5 : fdB Try.prog 47 5 5 = true := by kernel_rfl
theorem fd47_6 : fdB Try.prog 47 6 6 = true := by kernel_rfl
theorem fd47_7 : fdB Try.prog 47 7 7 = true := by kernel_rfl
theorem fd47_8 : fdB Try.prog 47 8 8 = true := by kernel_rfl
theorem fd47_9 : fdB Try.prog 47 9 9 = true := by kernel_rfl
theorem fd72_0 : fdB Try.prog 72 0 0 = true := by kernel_rfl
theorem fd72_1 : fdB Try.prog 72 1 1 = true := by kernel_rfl
theorem fd72_2 : fdB Try.prog 72 2 2 = true := by kernel_rfl
theorem fd72_3 : fdB Try.prog 72 3 3 = true := by kernel_rfl
theorem fd72_4 : fdB Try.prog 72 4 4 = true := by kernel_rfl
theorem fd72_5 : fdB Try.prog 72 5 5 = true := by kernel_rfl
theorem fd81_0 : fdB Try.prog 81 0 0 = true := by kernel_rfl
theorem fd81_1 : fdB Try.prog 81 1 1 = true := by kernel_rfl
theorem fd81_2 : fdB Try.prog 81 2 2 = true := by kernel_rfl
theorem fd81_3 : fdB Try.prog 81 3 3 = true := by kernel_rfl
theorem fd81_4 : fdB Try.prog 81 4 4 = true := by kernel_rfl
theorem fd81_5 : fdB Try.prog 81 5 5 = true := by kernel_rfl
theorem fd81_6 : fdB Try.prog 81 6 6 = true := by kernel_rfl
theorem fn14 : fnB Try.prog 14 = true := by kernel_rfl
theorem fn15 : fnB Try.prog 15 = true := by kernel_rfl
theorem fn16 : fnB Try.prog 16 = true := by kernel_rfl
theorem fn17 : fnB Try.prog 17 = true := by kernel_rfl
theorem fn18 : fnB Try.prog 18 = true := by kernel_rfl
theorem fn19 : fnB Try.prog 19 = true := by kernel_rfl
theorem fn20 : fnB Try.prog 20 = true := by kernel_rfl
theorem fn21 : fnB Try.prog 21 = true := by kernel_rfl
theorem fn22 : fnB Try.prog 22 = true := by kernel_rfl
theorem fn23 : fnB Try.prog 23 = true := by kernel_rfl
theorem fn24 : fnB Try.prog 24 = true := by kernel_rfl
theorem fn25 : fnB Try.prog 25 = true := by kernel_rfl
theorem fn28 : fnB Try.prog 28 = true := by kernel_rfl
theorem fn29 : fnB Try.prog 29 = true := by kernel_rfl
theorem fn30 : fnB Try.prog 30 = true := by kernel_rfl
theorem fn31 : fnB Try.prog 31 = true := by kernel_rfl
theorem fn32 : fnB Try.prog 32 = true := by kernel_rfl
theorem fn33 : fnB Try.prog 33 = true := by kernel_rfl
theorem fn34 : fnB Try.prog 34 = true := by kernel_rfl
theorem fn35 : fnB Try.prog 35 = true := by kernel_rfl
theorem fn36 : fnB Try.prog 36 = true := by kernel_rfl
theorem fn37 : fnB Try.prog 37 = true := by kernel_rfl
theorem fn38 : fnB Try.prog 38 = true := by kernel_rfl
theorem fn39 : fnB Try.prog 39 = true := by kernel_rfl
theorem fn43 : fnB Try.prog 43 = true := by kernel_rfl
theorem fn44 : fnB Try.prog 44 = true := by kernel_rfl
theorem fn45 : fnB Try.prog 45 = true := by kernel_rfl
theorem fn46 : fnB Try.prog 46 = true := by kernel_rfl
theorem fn48 : fnB Try.prog 48 = true := by kernel_rfl
theorem fn53 : fnB Try.prog 53 = true := by kernel_rfl
theorem fn54 : fnB Try.prog 54 = true := by kernel_rfl
theorem fn55 : fnB Try.prog 55 = true := by kernel_rfl
theorem fn56 : fnB Try.prog 56 = true := by kernel_rfl
theorem fn57 : fnB Try.prog 57 = true := by kernel_rfl
theorem fn58 : fnB Try.prog 58 = true := by kernel_rfl
theorem fn59 : fnB Try.prog 59 = true := by kernel_rfl
theorem fn71 : fnB Try.prog 71 = true := by kernel_rfl
theorem fn8 : fnB Try.prog 8 = true := by kernel_rfl
theorem fn9 : fnB Try.prog 9 = true := by kernel_rfl
theorem mp55 : mapB Try.prog 55 9 56 = true := by kernel_rfl
theorem mp56 : mapB Try.prog 56 9 3 = true := by kernel_rfl
theorem mp68 : mapB Try.prog 68 9 72 = true := by kernel_rfl
theorem mt56 : mapTB Try.prog 56 = true := by kernel_rfl
theorem pl35 : placesP Try.prog 35 = some ([(0, 1), (1, 1), (2, 1), (3, 1)], .agg #[.string ByteArray.empty, .string ByteArray.empty, .string ByteArray.empty, .int .i64 0]) := by kernel_rfl
theorem pl39 : placesP Try.prog 39 = some ([(0, 1), (1, 1)], .agg #[.int .i64 0, .int .i64 0]) := by kernel_rfl
theorem pl47 : placesP Try.prog 47 = some ([(0, 1), (1, 1), (2, 1), (3, 1), (4, 1), (5, 1), (6, 1), (7, 1), (8, 1), (9, 1), (10, 1), (11, 1), (12, 1), (13, 1)], .agg #[.string ByteArray.empty, .string ByteArray.empty, .string ByteArray.empty, .string ByteArray.empty, .int .i64 0, .int .i64 0, .int .i64 0, .int .i64 0, .string ByteArray.empty, .string ByteArray.empty, .slice none 0 0, .int .i64 0, .bool false, .string ByteArray.empty]) := by kernel_rfl
theorem sl22 : slB Try.prog 22 35 4 56 = true := by kernel_rfl
theorem sl36 : slB Try.prog 36 47 14 184 = true := by kernel_rfl
theorem sl37 : slB Try.prog 37 72 6 64 = true := by kernel_rfl
theorem sl45 : slB Try.prog 45 81 7 56 = true := by kernel_rfl
theorem sl57 : slB Try.prog 57 9 1 16 = true := by kernel_rfl
theorem sl70 : slB Try.prog 70 3 1 8 = true := by kernel_rfl
theorem ty3 : tyB Try.prog 3 false 1 = true := by kernel_rfl
theorem ty35 : tyB Try.prog 35 true 4 = true := by kernel_rfl
theorem ty36 : tyB Try.prog 36 false 1 = true := by kernel_rfl
theorem ty37 : tyB Try.prog 37 false 1 = true := by kernel_rfl
theorem ty39 : tyB Try.prog 39 true 2 = true := by kernel_rfl
theorem ty4 : tyB Try.prog 4 false 1 = true := by kernel_rfl
theorem ty41 : tyB Try.prog 41 true 7 = true := by kernel_rfl
theorem ty45 : tyB Try.prog 45 false 1 = true := by kernel_rfl
theorem ty47 : tyB Try.prog 47 true 14 = true := by kernel_rfl
theorem ty72 : tyB Try.prog 72 true 6 = true := by kernel_rfl
theorem ty81 : tyB Try.prog 81 true 7 = true := by kernel_rfl
theorem ty9 : tyB Try.prog 9 false 1 = true := by kernel_rfl
theorem un21 : Try.prog.underlying 21 = some (.int .i32) := by kernel_rfl
theorem un3 : Try.prog.underlying 3 = some (.int .i64) := by kernel_rfl
theorem un4 : Try.prog.underlying 4 = some (.bool) := by kernel_rfl
theorem un87 : Try.prog.underlying 87 = some (.int .u64) := by kernel_rfl
theorem un9 : Try.prog.underlying 9 = some (.string) := by kernel_rfl
theorem z3 : (Try.prog.info? 3).map (·.zero) = some (some (.int .i64 0)) := by kernel_rfl
theorem z35 : (Try.prog.info? 35).map (·.zero) = some (some (.agg #[.string ByteArray.empty, .string ByteArray.empty, .string ByteArray.empty, .int .i64 0])) := by kernel_rfl
theorem z47 : (Try.prog.info? 47).map (·.zero) = some (some (.agg #[.string ByteArray.empty, .string ByteArray.empty, .string ByteArray.empty, .string ByteArray.empty, .int .i64 0, .int .i64 0, .int .i64 0, .int .i64 0, .string ByteArray.empty, .string ByteArray.empty, .slice none 0 0, .int .i64 0, .bool false, .string ByteArray.empty])) := by kernel_rfl
theorem z56 : (Try.prog.info? 56).map (·.zero) = some (some (.map none)) := by kernel_rfl
theorem z72 : (Try.prog.info? 72).map (·.zero) = some (some (.agg #[.string ByteArray.empty, .string ByteArray.empty, .int .i64 0, .int .i64 0, .int .i64 0, .int .i64 0])) := by kernel_rfl
theorem z81 : (Try.prog.info? 81).map (·.zero) = some (some (.agg #[.int .i64 0, .int .i64 0, .int .i64 0, .int .i64 0, .int .i64 0, .int .i64 0, .int .i64 0])) := by kernel_rfl
theorem z9 : (Try.prog.info? 9).map (·.zero) = some (some (.string ByteArray.empty)) := by kernel_rfl
theorem add47 : AddC Try.prog 47 := AddC.of Try.func47 (by kernel_rfl) (by kernel_rfl) (by kernel_rfl) (by kernel_rfl)
end Go.Proofs.Ytoncfkdgddfnlaa.W
