/- The program's structs as Lean types, how they lie as leaves; the types' table (printed by genty.py). -/
import Derived.Test.YtdnafbfmaphhhaaGreatDoorQB2
set_option linter.unusedSimpArgs false
set_option linter.unusedVariables false
namespace Go.Proofs.YtdnafbfmaphhhaaGreatDoor
open Go.RowKit
def lfI (x : Int) : List Lf := [.int .i64 x]
def lfK (k : IntKind) (x : Int) : List Lf := [.int k x]
def lfS (x : ByteArray) : List Lf := [.str x]
mutual
inductive GField where
  | mk (fName : ByteArray) (fValue : GValue)
inductive GValue where
  | mk (fKind : Int) (fInt : Int) (fText : ByteArray) (fList : List GValue) (fDoc : List GField)
end
def GField.fName : GField → ByteArray | .mk x _ => x
def GField.fValue : GField → GValue | .mk _ x => x
def GValue.fKind : GValue → Int | .mk x _ _ _ _ => x
def GValue.fInt : GValue → Int | .mk _ x _ _ _ => x
def GValue.fText : GValue → ByteArray | .mk _ _ x _ _ => x
def GValue.fList : GValue → List GValue | .mk _ _ _ x _ => x
def GValue.fDoc : GValue → List GField | .mk _ _ _ _ x => x
mutual
def GField.lf : GField → List Lf
  | .mk x0 x1 => [.str x0] ++ (GValue.lf x1)
def GValue.lf : GValue → List Lf
  | .mk x0 x1 x2 x3 x4 => [.int .i64 x0, .int .i64 x1, .str x2, .rows 5 (GValue.lfs x3), .rows 6 (GField.lfs x4)]
def GValue.lfs : List GValue → List (List Lf)
  | [] => []
  | x :: r => GValue.lf x :: GValue.lfs r
def GField.lfs : List GField → List (List Lf)
  | [] => []
  | x :: r => GField.lf x :: GField.lfs r
end
theorem GValue.lfs_eq : ∀ l : List GValue, GValue.lfs l = l.map GValue.lf
  | [] => by simp [GValue.lfs]
  | x :: r => by simp [GValue.lfs, GValue.lfs_eq r]
theorem GField.lfs_eq : ∀ l : List GField, GField.lfs l = l.map GField.lf
  | [] => by simp [GField.lfs]
  | x :: r => by simp [GField.lfs, GField.lfs_eq r]
def GValue.lf1 (x : GValue) : List Lf := [.int .i64 x.fKind, .int .i64 x.fInt, .str x.fText, .rows 5 (x.fList.map GValue.lf), .rows 6 (x.fDoc.map GField.lf)]
theorem GValue.lf_eq (x : GValue) : x.lf = x.lf1 := by
  cases x
  simp only [GValue.lf, GValue.lf1, GValue.fKind, GValue.fInt, GValue.fText, GValue.fList, GValue.fDoc, GValue.lfs_eq, GField.lfs_eq]
def GField.lf1 (x : GField) : List Lf := [.str x.fName] ++ (GValue.lf1 x.fValue)
theorem GField.lf_eq (x : GField) : x.lf = x.lf1 := by
  cases x
  simp only [GField.lf, GField.lf1, GField.fName, GField.fValue, GValue.lfs_eq, GField.lfs_eq, GValue.lf_eq]
structure GOrder where
  fPath : List ByteArray
  fDesc : Bool
def GOrder.lf1 (x : GOrder) : List Lf := [.rows 1 (x.fPath.map lfS), .bool x.fDesc]
abbrev GOrder.lf (x : GOrder) : List Lf := x.lf1
theorem GOrder.lf_eq (x : GOrder) : x.lf = x.lf1 := rfl
structure GPoint where
  fX : Int
  fY : Int
def GPoint.lf1 (x : GPoint) : List Lf := [.int .i64 x.fX, .int .i64 x.fY]
abbrev GPoint.lf (x : GPoint) : List Lf := x.lf1
theorem GPoint.lf_eq (x : GPoint) : x.lf = x.lf1 := rfl
structure GShape where
  fKind : Int
  fPoints : List GPoint
  fR : Int
def GShape.lf1 (x : GShape) : List Lf := [.int .i64 x.fKind, .rows 2 (x.fPoints.map GPoint.lf), .int .i64 x.fR]
abbrev GShape.lf (x : GShape) : List Lf := x.lf1
theorem GShape.lf_eq (x : GShape) : x.lf = x.lf1 := rfl
inductive GExpr where
  | mk (fOp : Int) (fPath : List ByteArray) (fName : ByteArray) (fNames : List ByteArray) (fArg : GValue) (fN : Int) (fKids : List GExpr)
def GExpr.fOp : GExpr → Int | .mk x _ _ _ _ _ _ => x
def GExpr.fPath : GExpr → List ByteArray | .mk _ x _ _ _ _ _ => x
def GExpr.fName : GExpr → ByteArray | .mk _ _ x _ _ _ _ => x
def GExpr.fNames : GExpr → List ByteArray | .mk _ _ _ x _ _ _ => x
def GExpr.fArg : GExpr → GValue | .mk _ _ _ _ x _ _ => x
def GExpr.fN : GExpr → Int | .mk _ _ _ _ _ x _ => x
def GExpr.fKids : GExpr → List GExpr | .mk _ _ _ _ _ _ x => x
mutual
def GExpr.lf : GExpr → List Lf
  | .mk x0 x1 x2 x3 x4 x5 x6 => [.int .i64 x0, .rows 1 (x1.map lfS), .str x2, .rows 1 (x3.map lfS)] ++ (GValue.lf1 x4 ++ ([.int .i64 x5, .rows 11 (GExpr.lfs x6)]))
def GExpr.lfs : List GExpr → List (List Lf)
  | [] => []
  | x :: r => GExpr.lf x :: GExpr.lfs r
end
theorem GExpr.lfs_eq : ∀ l : List GExpr, GExpr.lfs l = l.map GExpr.lf
  | [] => by simp [GExpr.lfs]
  | x :: r => by simp [GExpr.lfs, GExpr.lfs_eq r]
def GExpr.lf1 (x : GExpr) : List Lf := [.int .i64 x.fOp, .rows 1 (x.fPath.map lfS), .str x.fName, .rows 1 (x.fNames.map lfS)] ++ (GValue.lf1 x.fArg ++ ([.int .i64 x.fN, .rows 11 (x.fKids.map GExpr.lf)]))
theorem GExpr.lf_eq (x : GExpr) : x.lf = x.lf1 := by
  cases x
  simp only [GExpr.lf, GExpr.lf1, GExpr.fOp, GExpr.fPath, GExpr.fName, GExpr.fNames, GExpr.fArg, GExpr.fN, GExpr.fKids, GExpr.lfs_eq]
inductive GPred where
  | mk (fOp : Int) (fPath : List ByteArray) (fArg : GValue) (fArgs : List GValue) (fN : Int) (fM : Int) (fShape : GShape) (fExpr : GExpr) (fKids : List GPred)
def GPred.fOp : GPred → Int | .mk x _ _ _ _ _ _ _ _ => x
def GPred.fPath : GPred → List ByteArray | .mk _ x _ _ _ _ _ _ _ => x
def GPred.fArg : GPred → GValue | .mk _ _ x _ _ _ _ _ _ => x
def GPred.fArgs : GPred → List GValue | .mk _ _ _ x _ _ _ _ _ => x
def GPred.fN : GPred → Int | .mk _ _ _ _ x _ _ _ _ => x
def GPred.fM : GPred → Int | .mk _ _ _ _ _ x _ _ _ => x
def GPred.fShape : GPred → GShape | .mk _ _ _ _ _ _ x _ _ => x
def GPred.fExpr : GPred → GExpr | .mk _ _ _ _ _ _ _ x _ => x
def GPred.fKids : GPred → List GPred | .mk _ _ _ _ _ _ _ _ x => x
mutual
def GPred.lf : GPred → List Lf
  | .mk x0 x1 x2 x3 x4 x5 x6 x7 x8 => [.int .i64 x0, .rows 1 (x1.map lfS)] ++ (GValue.lf1 x2 ++ ([.rows 5 (x3.map GValue.lf), .int .i64 x4, .int .i64 x5] ++ (GShape.lf1 x6 ++ (GExpr.lf1 x7 ++ ([.rows 25 (GPred.lfs x8)])))))
def GPred.lfs : List GPred → List (List Lf)
  | [] => []
  | x :: r => GPred.lf x :: GPred.lfs r
end
theorem GPred.lfs_eq : ∀ l : List GPred, GPred.lfs l = l.map GPred.lf
  | [] => by simp [GPred.lfs]
  | x :: r => by simp [GPred.lfs, GPred.lfs_eq r]
def GPred.lf1 (x : GPred) : List Lf := [.int .i64 x.fOp, .rows 1 (x.fPath.map lfS)] ++ (GValue.lf1 x.fArg ++ ([.rows 5 (x.fArgs.map GValue.lf), .int .i64 x.fN, .int .i64 x.fM] ++ (GShape.lf1 x.fShape ++ (GExpr.lf1 x.fExpr ++ ([.rows 25 (x.fKids.map GPred.lf)])))))
theorem GPred.lf_eq (x : GPred) : x.lf = x.lf1 := by
  cases x
  simp only [GPred.lf, GPred.lf1, GPred.fOp, GPred.fPath, GPred.fArg, GPred.fArgs, GPred.fN, GPred.fM, GPred.fShape, GPred.fExpr, GPred.fKids, GPred.lfs_eq]
structure GIndex where
  fName : ByteArray
  fKind : Int
  fKeys : List GOrder
  fUnique : Bool
  fSparse : Bool
  fPartial : Bool
  fWhere : GPred
def GIndex.lf1 (x : GIndex) : List Lf := [.str x.fName, .int .i64 x.fKind, .rows 2 (x.fKeys.map GOrder.lf), .bool x.fUnique, .bool x.fSparse, .bool x.fPartial] ++ (GPred.lf1 x.fWhere)
abbrev GIndex.lf (x : GIndex) : List Lf := x.lf1
theorem GIndex.lf_eq (x : GIndex) : x.lf = x.lf1 := rfl
mutual
inductive GProp where
  | mk (fName : ByteArray) (fSchema : GSchema)
inductive GSchema where
  | mk (fKinds : Int) (fHasMin : Bool) (fMin : GValue) (fHasMax : Bool) (fMax : GValue) (fEnum : List GValue) (fMinLen : Int) (fMaxLen : Int) (fRequired : List ByteArray) (fProps : List GProp) (fClosed : Bool) (fItems : List GSchema) (fUnique : Bool)
end
def GProp.fName : GProp → ByteArray | .mk x _ => x
def GProp.fSchema : GProp → GSchema | .mk _ x => x
def GSchema.fKinds : GSchema → Int | .mk x _ _ _ _ _ _ _ _ _ _ _ _ => x
def GSchema.fHasMin : GSchema → Bool | .mk _ x _ _ _ _ _ _ _ _ _ _ _ => x
def GSchema.fMin : GSchema → GValue | .mk _ _ x _ _ _ _ _ _ _ _ _ _ => x
def GSchema.fHasMax : GSchema → Bool | .mk _ _ _ x _ _ _ _ _ _ _ _ _ => x
def GSchema.fMax : GSchema → GValue | .mk _ _ _ _ x _ _ _ _ _ _ _ _ => x
def GSchema.fEnum : GSchema → List GValue | .mk _ _ _ _ _ x _ _ _ _ _ _ _ => x
def GSchema.fMinLen : GSchema → Int | .mk _ _ _ _ _ _ x _ _ _ _ _ _ => x
def GSchema.fMaxLen : GSchema → Int | .mk _ _ _ _ _ _ _ x _ _ _ _ _ => x
def GSchema.fRequired : GSchema → List ByteArray | .mk _ _ _ _ _ _ _ _ x _ _ _ _ => x
def GSchema.fProps : GSchema → List GProp | .mk _ _ _ _ _ _ _ _ _ x _ _ _ => x
def GSchema.fClosed : GSchema → Bool | .mk _ _ _ _ _ _ _ _ _ _ x _ _ => x
def GSchema.fItems : GSchema → List GSchema | .mk _ _ _ _ _ _ _ _ _ _ _ x _ => x
def GSchema.fUnique : GSchema → Bool | .mk _ _ _ _ _ _ _ _ _ _ _ _ x => x
mutual
def GProp.lf : GProp → List Lf
  | .mk x0 x1 => [.str x0] ++ (GSchema.lf x1)
def GSchema.lf : GSchema → List Lf
  | .mk x0 x1 x2 x3 x4 x5 x6 x7 x8 x9 x10 x11 x12 => [.int .i64 x0, .bool x1] ++ (GValue.lf1 x2 ++ ([.bool x3] ++ (GValue.lf1 x4 ++ ([.rows 5 (x5.map GValue.lf), .int .i64 x6, .int .i64 x7, .rows 1 (x8.map lfS), .rows 22 (GProp.lfs x9), .bool x10, .rows 21 (GSchema.lfs x11), .bool x12]))))
def GProp.lfs : List GProp → List (List Lf)
  | [] => []
  | x :: r => GProp.lf x :: GProp.lfs r
def GSchema.lfs : List GSchema → List (List Lf)
  | [] => []
  | x :: r => GSchema.lf x :: GSchema.lfs r
end
theorem GProp.lfs_eq : ∀ l : List GProp, GProp.lfs l = l.map GProp.lf
  | [] => by simp [GProp.lfs]
  | x :: r => by simp [GProp.lfs, GProp.lfs_eq r]
theorem GSchema.lfs_eq : ∀ l : List GSchema, GSchema.lfs l = l.map GSchema.lf
  | [] => by simp [GSchema.lfs]
  | x :: r => by simp [GSchema.lfs, GSchema.lfs_eq r]
def GSchema.lf1 (x : GSchema) : List Lf := [.int .i64 x.fKinds, .bool x.fHasMin] ++ (GValue.lf1 x.fMin ++ ([.bool x.fHasMax] ++ (GValue.lf1 x.fMax ++ ([.rows 5 (x.fEnum.map GValue.lf), .int .i64 x.fMinLen, .int .i64 x.fMaxLen, .rows 1 (x.fRequired.map lfS), .rows 22 (x.fProps.map GProp.lf), .bool x.fClosed, .rows 21 (x.fItems.map GSchema.lf), .bool x.fUnique]))))
theorem GSchema.lf_eq (x : GSchema) : x.lf = x.lf1 := by
  cases x
  simp only [GSchema.lf, GSchema.lf1, GSchema.fKinds, GSchema.fHasMin, GSchema.fMin, GSchema.fHasMax, GSchema.fMax, GSchema.fEnum, GSchema.fMinLen, GSchema.fMaxLen, GSchema.fRequired, GSchema.fProps, GSchema.fClosed, GSchema.fItems, GSchema.fUnique, GProp.lfs_eq, GSchema.lfs_eq]
def GProp.lf1 (x : GProp) : List Lf := [.str x.fName] ++ (GSchema.lf1 x.fSchema)
theorem GProp.lf_eq (x : GProp) : x.lf = x.lf1 := by
  cases x
  simp only [GProp.lf, GProp.lf1, GProp.fName, GProp.fSchema, GProp.lfs_eq, GSchema.lfs_eq, GSchema.lf_eq]
structure GSpace where
  fName : ByteArray
  fIndexes : List GIndex
  fSchema : GSchema
  fLevel : Int
  fAction : Int
def GSpace.lf1 (x : GSpace) : List Lf := [.str x.fName, .rows 31 (x.fIndexes.map GIndex.lf)] ++ (GSchema.lf1 x.fSchema ++ ([.int .i64 x.fLevel, .int .i64 x.fAction]))
abbrev GSpace.lf (x : GSpace) : List Lf := x.lf1
theorem GSpace.lf_eq (x : GSpace) : x.lf = x.lf1 := rfl
inductive GWrite where
  | mk (fKind : Int) (fSpace : ByteArray) (fKey : GValue) (fDoc : GValue) (fBefore : GValue) (fDef : GSpace) (fIndex : GIndex) (fTxn : ByteArray) (fStamp : Int) (fWrites : List GWrite) (fShards : List Int) (fSilent : Bool)
def GWrite.fKind : GWrite → Int | .mk x _ _ _ _ _ _ _ _ _ _ _ => x
def GWrite.fSpace : GWrite → ByteArray | .mk _ x _ _ _ _ _ _ _ _ _ _ => x
def GWrite.fKey : GWrite → GValue | .mk _ _ x _ _ _ _ _ _ _ _ _ => x
def GWrite.fDoc : GWrite → GValue | .mk _ _ _ x _ _ _ _ _ _ _ _ => x
def GWrite.fBefore : GWrite → GValue | .mk _ _ _ _ x _ _ _ _ _ _ _ => x
def GWrite.fDef : GWrite → GSpace | .mk _ _ _ _ _ x _ _ _ _ _ _ => x
def GWrite.fIndex : GWrite → GIndex | .mk _ _ _ _ _ _ x _ _ _ _ _ => x
def GWrite.fTxn : GWrite → ByteArray | .mk _ _ _ _ _ _ _ x _ _ _ _ => x
def GWrite.fStamp : GWrite → Int | .mk _ _ _ _ _ _ _ _ x _ _ _ => x
def GWrite.fWrites : GWrite → List GWrite | .mk _ _ _ _ _ _ _ _ _ x _ _ => x
def GWrite.fShards : GWrite → List Int | .mk _ _ _ _ _ _ _ _ _ _ x _ => x
def GWrite.fSilent : GWrite → Bool | .mk _ _ _ _ _ _ _ _ _ _ _ x => x
mutual
def GWrite.lf : GWrite → List Lf
  | .mk x0 x1 x2 x3 x4 x5 x6 x7 x8 x9 x10 x11 => [.int .i64 x0, .str x1] ++ (GValue.lf1 x2 ++ (GValue.lf1 x3 ++ (GValue.lf1 x4 ++ (GSpace.lf1 x5 ++ (GIndex.lf1 x6 ++ ([.str x7, .int .i64 x8, .rows 78 (GWrite.lfs x9), .rows 1 (x10.map lfI), .bool x11]))))))
def GWrite.lfs : List GWrite → List (List Lf)
  | [] => []
  | x :: r => GWrite.lf x :: GWrite.lfs r
end
theorem GWrite.lfs_eq : ∀ l : List GWrite, GWrite.lfs l = l.map GWrite.lf
  | [] => by simp [GWrite.lfs]
  | x :: r => by simp [GWrite.lfs, GWrite.lfs_eq r]
def GWrite.lf1 (x : GWrite) : List Lf := [.int .i64 x.fKind, .str x.fSpace] ++ (GValue.lf1 x.fKey ++ (GValue.lf1 x.fDoc ++ (GValue.lf1 x.fBefore ++ (GSpace.lf1 x.fDef ++ (GIndex.lf1 x.fIndex ++ ([.str x.fTxn, .int .i64 x.fStamp, .rows 78 (x.fWrites.map GWrite.lf), .rows 1 (x.fShards.map lfI), .bool x.fSilent]))))))
theorem GWrite.lf_eq (x : GWrite) : x.lf = x.lf1 := by
  cases x
  simp only [GWrite.lf, GWrite.lf1, GWrite.fKind, GWrite.fSpace, GWrite.fKey, GWrite.fDoc, GWrite.fBefore, GWrite.fDef, GWrite.fIndex, GWrite.fTxn, GWrite.fStamp, GWrite.fWrites, GWrite.fShards, GWrite.fSilent, GWrite.lfs_eq]
structure GEntry where
  fTerm : Int
  fStamp : Int
  fSession : ByteArray
  fNumber : Int
  fWrite : GWrite
def GEntry.lf1 (x : GEntry) : List Lf := [.int .i64 x.fTerm, .int .i64 x.fStamp, .str x.fSession, .int .i64 x.fNumber] ++ (GWrite.lf1 x.fWrite)
abbrev GEntry.lf (x : GEntry) : List Lf := x.lf1
theorem GEntry.lf_eq (x : GEntry) : x.lf = x.lf1 := rfl
structure GMember where
  fID : Int
  fSize : Int
  fTerm : Int
  fVote : Int
  fRole : Int
  fLeader : Int
  fTimer : Int
  fVotes : Int
  fLog : List GEntry
  fCommit : Int
  fNext : List Int
  fMatch : List Int
def GMember.lf1 (x : GMember) : List Lf := [.int .i64 x.fID, .int .i64 x.fSize, .int .i64 x.fTerm, .int .i64 x.fVote, .int .i64 x.fRole, .int .i64 x.fLeader, .int .i64 x.fTimer, .int .i64 x.fVotes, .rows 82 (x.fLog.map GEntry.lf), .int .i64 x.fCommit, .rows 1 (x.fNext.map lfI), .rows 1 (x.fMatch.map lfI)]
abbrev GMember.lf (x : GMember) : List Lf := x.lf1
theorem GMember.lf_eq (x : GMember) : x.lf = x.lf1 := rfl
structure GRef40Out where
  fS : ByteArray
  fBad : Bool
  fRaw : Bool
def GRef40Out.lf1 (x : GRef40Out) : List Lf := [.str x.fS, .bool x.fBad, .bool x.fRaw]
abbrev GRef40Out.lf (x : GRef40Out) : List Lf := x.lf1
theorem GRef40Out.lf_eq (x : GRef40Out) : x.lf = x.lf1 := rfl
structure GMessage where
  fFrom : Int
  fTo : Int
  fKind : Int
  fTerm : Int
  fIndex : Int
  fLast : Int
  fCommit : Int
  fEntries : List GEntry
  fOK : Bool
def GMessage.lf1 (x : GMessage) : List Lf := [.int .i64 x.fFrom, .int .i64 x.fTo, .int .i64 x.fKind, .int .i64 x.fTerm, .int .i64 x.fIndex, .int .i64 x.fLast, .int .i64 x.fCommit, .rows 82 (x.fEntries.map GEntry.lf), .bool x.fOK]
abbrev GMessage.lf (x : GMessage) : List Lf := x.lf1
theorem GMessage.lf_eq (x : GMessage) : x.lf = x.lf1 := rfl
structure GReport where
  fMember : Int
  fTerm : Int
  fAt : Int
  fEntries : List GEntry
def GReport.lf1 (x : GReport) : List Lf := [.int .i64 x.fMember, .int .i64 x.fTerm, .int .i64 x.fAt, .rows 82 (x.fEntries.map GEntry.lf)]
abbrev GReport.lf (x : GReport) : List Lf := x.lf1
theorem GReport.lf_eq (x : GReport) : x.lf = x.lf1 := rfl
structure GReplicaNode where
  fmember : GMember
  fsent : List GMessage
  freport : GReport
def GReplicaNode.lf1 (x : GReplicaNode) : List Lf := GMember.lf1 x.fmember ++ ([.rows 9 (x.fsent.map GMessage.lf)] ++ (GReport.lf1 x.freport))
abbrev GReplicaNode.lf (x : GReplicaNode) : List Lf := x.lf1
theorem GReplicaNode.lf_eq (x : GReplicaNode) : x.lf = x.lf1 := rfl
structure GLaw44World where
  fm : List GMember
  fsent : List GMessage
  flead : List Int
  ftime : Int
def GLaw44World.lf1 (x : GLaw44World) : List Lf := [.rows 12 (x.fm.map GMember.lf), .rows 9 (x.fsent.map GMessage.lf), .rows 1 (x.flead.map lfI), .int .i64 x.ftime]
abbrev GLaw44World.lf (x : GLaw44World) : List Lf := x.lf1
theorem GLaw44World.lf_eq (x : GLaw44World) : x.lf = x.lf1 := rfl
structure GOplogUses where
  fspace : Bool
  fkey : Bool
  fdoc : Bool
  fdef : Bool
  findex : Bool
  findexName : Bool
  ftxn : Bool
  fstamp : Bool
  fwrites : Bool
  fshards : Bool
def GOplogUses.lf1 (x : GOplogUses) : List Lf := [.bool x.fspace, .bool x.fkey, .bool x.fdoc, .bool x.fdef, .bool x.findex, .bool x.findexName, .bool x.ftxn, .bool x.fstamp, .bool x.fwrites, .bool x.fshards]
abbrev GOplogUses.lf (x : GOplogUses) : List Lf := x.lf1
theorem GOplogUses.lf_eq (x : GOplogUses) : x.lf = x.lf1 := rfl
def GValue.z : GValue := .mk 0 0 ⟨#[]⟩ [] []
def GField.z : GField := .mk ⟨#[]⟩ GValue.z
def GOrder.z : GOrder := .mk [] false
def GPoint.z : GPoint := .mk 0 0
def GShape.z : GShape := .mk 0 [] 0
def GExpr.z : GExpr := .mk 0 [] ⟨#[]⟩ [] GValue.z 0 []
def GExpr.sOp (x : GExpr) (v : Int) : GExpr := .mk v x.fPath x.fName x.fNames x.fArg x.fN x.fKids
def GExpr.sPath (x : GExpr) (v : List ByteArray) : GExpr := .mk x.fOp v x.fName x.fNames x.fArg x.fN x.fKids
def GExpr.sName (x : GExpr) (v : ByteArray) : GExpr := .mk x.fOp x.fPath v x.fNames x.fArg x.fN x.fKids
def GExpr.sArg (x : GExpr) (v : GValue) : GExpr := .mk x.fOp x.fPath x.fName x.fNames v x.fN x.fKids
def GExpr.sN (x : GExpr) (v : Int) : GExpr := .mk x.fOp x.fPath x.fName x.fNames x.fArg v x.fKids
def GExpr.sKids (x : GExpr) (v : List GExpr) : GExpr := .mk x.fOp x.fPath x.fName x.fNames x.fArg x.fN v
def GPred.z : GPred := .mk 0 [] GValue.z [] 0 0 GShape.z GExpr.z []
def GPred.sOp (x : GPred) (v : Int) : GPred := .mk v x.fPath x.fArg x.fArgs x.fN x.fM x.fShape x.fExpr x.fKids
def GPred.sPath (x : GPred) (v : List ByteArray) : GPred := .mk x.fOp v x.fArg x.fArgs x.fN x.fM x.fShape x.fExpr x.fKids
def GPred.sArg (x : GPred) (v : GValue) : GPred := .mk x.fOp x.fPath v x.fArgs x.fN x.fM x.fShape x.fExpr x.fKids
def GPred.sN (x : GPred) (v : Int) : GPred := .mk x.fOp x.fPath x.fArg x.fArgs v x.fM x.fShape x.fExpr x.fKids
def GPred.sKids (x : GPred) (v : List GPred) : GPred := .mk x.fOp x.fPath x.fArg x.fArgs x.fN x.fM x.fShape x.fExpr v
def GIndex.z : GIndex := .mk ⟨#[]⟩ 0 [] false false false GPred.z
def GIndex.sName (x : GIndex) (v : ByteArray) : GIndex := .mk v x.fKind x.fKeys x.fUnique x.fSparse x.fPartial x.fWhere
def GIndex.sKind (x : GIndex) (v : Int) : GIndex := .mk x.fName v x.fKeys x.fUnique x.fSparse x.fPartial x.fWhere
def GIndex.sKeys (x : GIndex) (v : List GOrder) : GIndex := .mk x.fName x.fKind v x.fUnique x.fSparse x.fPartial x.fWhere
def GIndex.sUnique (x : GIndex) (v : Bool) : GIndex := .mk x.fName x.fKind x.fKeys v x.fSparse x.fPartial x.fWhere
def GIndex.sWhere (x : GIndex) (v : GPred) : GIndex := .mk x.fName x.fKind x.fKeys x.fUnique x.fSparse x.fPartial v
def GSchema.z : GSchema := .mk 0 false GValue.z false GValue.z [] 0 0 [] [] false [] false
def GSchema.sUnique (x : GSchema) (v : Bool) : GSchema := .mk x.fKinds x.fHasMin x.fMin x.fHasMax x.fMax x.fEnum x.fMinLen x.fMaxLen x.fRequired x.fProps x.fClosed x.fItems v
def GProp.z : GProp := .mk ⟨#[]⟩ GSchema.z
def GSpace.z : GSpace := .mk ⟨#[]⟩ [] GSchema.z 0 0
def GWrite.z : GWrite := .mk 0 ⟨#[]⟩ GValue.z GValue.z GValue.z GSpace.z GIndex.z ⟨#[]⟩ 0 [] [] false
def GWrite.sKind (x : GWrite) (v : Int) : GWrite := .mk v x.fSpace x.fKey x.fDoc x.fBefore x.fDef x.fIndex x.fTxn x.fStamp x.fWrites x.fShards x.fSilent
def GWrite.sIndex (x : GWrite) (v : GIndex) : GWrite := .mk x.fKind x.fSpace x.fKey x.fDoc x.fBefore x.fDef v x.fTxn x.fStamp x.fWrites x.fShards x.fSilent
def GEntry.z : GEntry := .mk 0 0 ⟨#[]⟩ 0 GWrite.z
def GMember.z : GMember := .mk 0 0 0 0 0 0 0 0 [] 0 [] []
def GMember.sID (x : GMember) (v : Int) : GMember := .mk v x.fSize x.fTerm x.fVote x.fRole x.fLeader x.fTimer x.fVotes x.fLog x.fCommit x.fNext x.fMatch
def GMember.sSize (x : GMember) (v : Int) : GMember := .mk x.fID v x.fTerm x.fVote x.fRole x.fLeader x.fTimer x.fVotes x.fLog x.fCommit x.fNext x.fMatch
def GMember.sTerm (x : GMember) (v : Int) : GMember := .mk x.fID x.fSize v x.fVote x.fRole x.fLeader x.fTimer x.fVotes x.fLog x.fCommit x.fNext x.fMatch
def GMember.sVote (x : GMember) (v : Int) : GMember := .mk x.fID x.fSize x.fTerm v x.fRole x.fLeader x.fTimer x.fVotes x.fLog x.fCommit x.fNext x.fMatch
def GMember.sRole (x : GMember) (v : Int) : GMember := .mk x.fID x.fSize x.fTerm x.fVote v x.fLeader x.fTimer x.fVotes x.fLog x.fCommit x.fNext x.fMatch
def GMember.sLeader (x : GMember) (v : Int) : GMember := .mk x.fID x.fSize x.fTerm x.fVote x.fRole v x.fTimer x.fVotes x.fLog x.fCommit x.fNext x.fMatch
def GMember.sTimer (x : GMember) (v : Int) : GMember := .mk x.fID x.fSize x.fTerm x.fVote x.fRole x.fLeader v x.fVotes x.fLog x.fCommit x.fNext x.fMatch
def GMember.sLog (x : GMember) (v : List GEntry) : GMember := .mk x.fID x.fSize x.fTerm x.fVote x.fRole x.fLeader x.fTimer x.fVotes v x.fCommit x.fNext x.fMatch
def GMember.sCommit (x : GMember) (v : Int) : GMember := .mk x.fID x.fSize x.fTerm x.fVote x.fRole x.fLeader x.fTimer x.fVotes x.fLog v x.fNext x.fMatch
def GMember.sNext (x : GMember) (v : List Int) : GMember := .mk x.fID x.fSize x.fTerm x.fVote x.fRole x.fLeader x.fTimer x.fVotes x.fLog x.fCommit v x.fMatch
def GMember.sMatch (x : GMember) (v : List Int) : GMember := .mk x.fID x.fSize x.fTerm x.fVote x.fRole x.fLeader x.fTimer x.fVotes x.fLog x.fCommit x.fNext v
def GRef40Out.z : GRef40Out := .mk ⟨#[]⟩ false false
def GMessage.z : GMessage := .mk 0 0 0 0 0 0 0 [] false
def GMessage.sFrom (x : GMessage) (v : Int) : GMessage := .mk v x.fTo x.fKind x.fTerm x.fIndex x.fLast x.fCommit x.fEntries x.fOK
def GMessage.sTo (x : GMessage) (v : Int) : GMessage := .mk x.fFrom v x.fKind x.fTerm x.fIndex x.fLast x.fCommit x.fEntries x.fOK
def GMessage.sKind (x : GMessage) (v : Int) : GMessage := .mk x.fFrom x.fTo v x.fTerm x.fIndex x.fLast x.fCommit x.fEntries x.fOK
def GMessage.sTerm (x : GMessage) (v : Int) : GMessage := .mk x.fFrom x.fTo x.fKind v x.fIndex x.fLast x.fCommit x.fEntries x.fOK
def GMessage.sIndex (x : GMessage) (v : Int) : GMessage := .mk x.fFrom x.fTo x.fKind x.fTerm v x.fLast x.fCommit x.fEntries x.fOK
def GMessage.sLast (x : GMessage) (v : Int) : GMessage := .mk x.fFrom x.fTo x.fKind x.fTerm x.fIndex v x.fCommit x.fEntries x.fOK
def GMessage.sCommit (x : GMessage) (v : Int) : GMessage := .mk x.fFrom x.fTo x.fKind x.fTerm x.fIndex x.fLast v x.fEntries x.fOK
def GMessage.sEntries (x : GMessage) (v : List GEntry) : GMessage := .mk x.fFrom x.fTo x.fKind x.fTerm x.fIndex x.fLast x.fCommit v x.fOK
def GMessage.sOK (x : GMessage) (v : Bool) : GMessage := .mk x.fFrom x.fTo x.fKind x.fTerm x.fIndex x.fLast x.fCommit x.fEntries v
def GReport.z : GReport := .mk 0 0 0 []
def GReplicaNode.z : GReplicaNode := .mk GMember.z [] GReport.z
def GLaw44World.z : GLaw44World := .mk [] [] [] 0
def GOplogUses.z : GOplogUses := .mk false false false false false false false false false false
def Z25 : AV := .agg [.lf (.int .i64 0), .lf (.int .i64 0), .lf (.int .i64 0), .lf (.int .i64 0), .lf (.int .i64 0), .lf (.int .i64 0), .lf (.int .i64 0), .lf (.int .i64 0), .nils 82, .lf (.int .i64 0), .nils 1, .nils 1]
def Z29 : AV := .agg [.lf (.int .i64 0), .lf (.int .i64 0), .lf (.str ⟨#[]⟩), .nils 5, .nils 6]
def Z35 : AV := .agg [.lf (.int .i64 0), .lf (.bool false), .lf (.int .i64 0), .lf (.int .i64 0), .lf (.str ⟨#[]⟩), .nils 5, .nils 6, .lf (.bool false), .lf (.int .i64 0), .lf (.int .i64 0), .lf (.str ⟨#[]⟩), .nils 5, .nils 6, .nils 5, .lf (.int .i64 0), .lf (.int .i64 0), .nils 1, .nils 22, .lf (.bool false), .nils 21, .lf (.bool false)]
def Z37 : AV := .agg [.lf (.str ⟨#[]⟩), .nils 31, .lf (.int .i64 0), .lf (.bool false), .lf (.int .i64 0), .lf (.int .i64 0), .lf (.str ⟨#[]⟩), .nils 5, .nils 6, .lf (.bool false), .lf (.int .i64 0), .lf (.int .i64 0), .lf (.str ⟨#[]⟩), .nils 5, .nils 6, .nils 5, .lf (.int .i64 0), .lf (.int .i64 0), .nils 1, .nils 22, .lf (.bool false), .nils 21, .lf (.bool false), .lf (.int .i64 0), .lf (.int .i64 0)]
def Z41 : AV := .agg [.lf (.int .i64 0), .nils 2, .lf (.int .i64 0)]
def Z44 : AV := .agg [.lf (.int .i64 0), .nils 1, .lf (.str ⟨#[]⟩), .nils 1, .lf (.int .i64 0), .lf (.int .i64 0), .lf (.str ⟨#[]⟩), .nils 5, .nils 6, .lf (.int .i64 0), .nils 11]
def Z47 : AV := .agg [.lf (.int .i64 0), .nils 1, .lf (.int .i64 0), .lf (.int .i64 0), .lf (.str ⟨#[]⟩), .nils 5, .nils 6, .nils 5, .lf (.int .i64 0), .lf (.int .i64 0), .lf (.int .i64 0), .nils 2, .lf (.int .i64 0), .lf (.int .i64 0), .nils 1, .lf (.str ⟨#[]⟩), .nils 1, .lf (.int .i64 0), .lf (.int .i64 0), .lf (.str ⟨#[]⟩), .nils 5, .nils 6, .lf (.int .i64 0), .nils 11, .nils 25]
def Z49 : AV := .agg [.lf (.str ⟨#[]⟩), .lf (.int .i64 0), .nils 2, .lf (.bool false), .lf (.bool false), .lf (.bool false), .lf (.int .i64 0), .nils 1, .lf (.int .i64 0), .lf (.int .i64 0), .lf (.str ⟨#[]⟩), .nils 5, .nils 6, .nils 5, .lf (.int .i64 0), .lf (.int .i64 0), .lf (.int .i64 0), .nils 2, .lf (.int .i64 0), .lf (.int .i64 0), .nils 1, .lf (.str ⟨#[]⟩), .nils 1, .lf (.int .i64 0), .lf (.int .i64 0), .lf (.str ⟨#[]⟩), .nils 5, .nils 6, .lf (.int .i64 0), .nils 11, .nils 25]
def Z52 : AV := .agg [.lf (.int .i64 0), .lf (.str ⟨#[]⟩), .lf (.int .i64 0), .lf (.int .i64 0), .lf (.str ⟨#[]⟩), .nils 5, .nils 6, .lf (.int .i64 0), .lf (.int .i64 0), .lf (.str ⟨#[]⟩), .nils 5, .nils 6, .lf (.int .i64 0), .lf (.int .i64 0), .lf (.str ⟨#[]⟩), .nils 5, .nils 6, .lf (.str ⟨#[]⟩), .nils 31, .lf (.int .i64 0), .lf (.bool false), .lf (.int .i64 0), .lf (.int .i64 0), .lf (.str ⟨#[]⟩), .nils 5, .nils 6, .lf (.bool false), .lf (.int .i64 0), .lf (.int .i64 0), .lf (.str ⟨#[]⟩), .nils 5, .nils 6, .nils 5, .lf (.int .i64 0), .lf (.int .i64 0), .nils 1, .nils 22, .lf (.bool false), .nils 21, .lf (.bool false), .lf (.int .i64 0), .lf (.int .i64 0), .lf (.str ⟨#[]⟩), .lf (.int .i64 0), .nils 2, .lf (.bool false), .lf (.bool false), .lf (.bool false), .lf (.int .i64 0), .nils 1, .lf (.int .i64 0), .lf (.int .i64 0), .lf (.str ⟨#[]⟩), .nils 5, .nils 6, .nils 5, .lf (.int .i64 0), .lf (.int .i64 0), .lf (.int .i64 0), .nils 2, .lf (.int .i64 0), .lf (.int .i64 0), .nils 1, .lf (.str ⟨#[]⟩), .nils 1, .lf (.int .i64 0), .lf (.int .i64 0), .lf (.str ⟨#[]⟩), .nils 5, .nils 6, .lf (.int .i64 0), .nils 11, .nils 25, .lf (.str ⟨#[]⟩), .lf (.int .i64 0), .nils 78, .nils 1, .lf (.bool false)]
def Z54 : AV := .agg [.lf (.int .i64 0), .lf (.int .i64 0), .lf (.str ⟨#[]⟩), .lf (.int .i64 0), .lf (.int .i64 0), .lf (.str ⟨#[]⟩), .lf (.int .i64 0), .lf (.int .i64 0), .lf (.str ⟨#[]⟩), .nils 5, .nils 6, .lf (.int .i64 0), .lf (.int .i64 0), .lf (.str ⟨#[]⟩), .nils 5, .nils 6, .lf (.int .i64 0), .lf (.int .i64 0), .lf (.str ⟨#[]⟩), .nils 5, .nils 6, .lf (.str ⟨#[]⟩), .nils 31, .lf (.int .i64 0), .lf (.bool false), .lf (.int .i64 0), .lf (.int .i64 0), .lf (.str ⟨#[]⟩), .nils 5, .nils 6, .lf (.bool false), .lf (.int .i64 0), .lf (.int .i64 0), .lf (.str ⟨#[]⟩), .nils 5, .nils 6, .nils 5, .lf (.int .i64 0), .lf (.int .i64 0), .nils 1, .nils 22, .lf (.bool false), .nils 21, .lf (.bool false), .lf (.int .i64 0), .lf (.int .i64 0), .lf (.str ⟨#[]⟩), .lf (.int .i64 0), .nils 2, .lf (.bool false), .lf (.bool false), .lf (.bool false), .lf (.int .i64 0), .nils 1, .lf (.int .i64 0), .lf (.int .i64 0), .lf (.str ⟨#[]⟩), .nils 5, .nils 6, .nils 5, .lf (.int .i64 0), .lf (.int .i64 0), .lf (.int .i64 0), .nils 2, .lf (.int .i64 0), .lf (.int .i64 0), .nils 1, .lf (.str ⟨#[]⟩), .nils 1, .lf (.int .i64 0), .lf (.int .i64 0), .lf (.str ⟨#[]⟩), .nils 5, .nils 6, .lf (.int .i64 0), .nils 11, .nils 25, .lf (.str ⟨#[]⟩), .lf (.int .i64 0), .nils 78, .nils 1, .lf (.bool false)]
def Z63 : AV := .agg [.lf (.int .i64 0), .lf (.int .i64 0), .lf (.int .i64 0), .lf (.int .i64 0), .lf (.int .i64 0), .lf (.int .i64 0), .lf (.int .i64 0), .nils 82, .lf (.bool false)]
def Z67 : AV := .agg [.lf (.int .i64 0), .lf (.int .i64 0), .lf (.int .i64 0), .nils 82]
def Z81 : AV := .agg [.nils 12, .nils 9, .nils 1, .lf (.int .i64 0)]
def Z97 : AV := .agg [.lf (.int .i64 0), .lf (.int .i64 0), .lf (.int .i64 0), .lf (.int .i64 0), .lf (.int .i64 0), .lf (.int .i64 0), .lf (.int .i64 0), .lf (.int .i64 0), .nils 82, .lf (.int .i64 0), .nils 1, .nils 1, .nils 9, .lf (.int .i64 0), .lf (.int .i64 0), .lf (.int .i64 0), .nils 82]
def Z124 : AV := .agg [.lf (.str ⟨#[]⟩), .lf (.bool false), .lf (.bool false)]
def Z127 : AV := .agg [.lf (.bool false), .lf (.bool false), .lf (.bool false), .lf (.bool false), .lf (.bool false), .lf (.bool false), .lf (.bool false), .lf (.bool false), .lf (.bool false), .lf (.bool false)]
def Z152 : AV := .agg [.nils 1, .lf (.bool false)]
def Z174 : AV := .agg [.lf (.str ⟨#[]⟩), .lf (.int .i64 0), .lf (.int .i64 0), .lf (.str ⟨#[]⟩), .nils 5, .nils 6]
def Z217 : AV := .agg [.lf (.str ⟨#[]⟩), .lf (.int .i64 0), .lf (.bool false), .lf (.int .i64 0), .lf (.int .i64 0), .lf (.str ⟨#[]⟩), .nils 5, .nils 6, .lf (.bool false), .lf (.int .i64 0), .lf (.int .i64 0), .lf (.str ⟨#[]⟩), .nils 5, .nils 6, .nils 5, .lf (.int .i64 0), .lf (.int .i64 0), .nils 1, .nils 22, .lf (.bool false), .nils 21, .lf (.bool false)]
def Z249 : AV := .agg [.lf (.int .i64 0), .lf (.int .i64 0)]
/-- some cells of an aggregate, set -/
def aggS : AV → List (Nat × AV) → AV
  | x, [] => x
  | .agg l, (i, v) :: r => aggS (.agg (l.set i v)) r
  | x, _ => x
def TTc : TT := [
  ⟨2, .int .i64, 1, 8, some (.lf (.int .i64 0))⟩,
  ⟨3, .int .i64, 1, 8, some (.lf (.int .i64 0))⟩,
  ⟨4, .bool, 1, 1, some (.lf (.bool false))⟩,
  ⟨5, .int .u8, 1, 1, some (.lf (.int .u8 0))⟩,
  ⟨6, .int .u8, 1, 1, some (.lf (.int .u8 0))⟩,
  ⟨9, .str, 1, 16, some (.lf (.str ⟨#[]⟩))⟩,
  ⟨10, .str, 1, 16, some (.lf (.str ⟨#[]⟩))⟩,
  ⟨11, .str, 1, 16, some (.lf (.str ⟨#[]⟩))⟩,
  ⟨12, .int .u64, 1, 8, some (.lf (.int .u64 0))⟩,
  ⟨21, .int .i32, 1, 4, some (.lf (.int .i32 0))⟩,
  ⟨22, .slice 54, 1, 24, some (.nils 82)⟩,
  ⟨23, .slice 3, 1, 24, some (.nils 1)⟩,
  ⟨25, .struct [(0, 1, false), (1, 1, false), (2, 1, false), (3, 1, false), (4, 1, false), (5, 1, false), (6, 1, false), (7, 1, false), (8, 1, false), (9, 1, false), (10, 1, false), (11, 1, false)], 12, 144, some (Z25)⟩,
  ⟨26, .slice 29, 1, 24, some (.nils 5)⟩,
  ⟨27, .slice 174, 1, 24, some (.nils 6)⟩,
  ⟨29, .struct [(0, 1, false), (1, 1, false), (2, 1, false), (3, 1, false), (4, 1, false)], 5, 80, some (Z29)⟩,
  ⟨30, .slice 49, 1, 24, some (.nils 31)⟩,
  ⟨31, .slice 9, 1, 24, some (.nils 1)⟩,
  ⟨32, .slice 217, 1, 24, some (.nils 22)⟩,
  ⟨33, .slice 35, 1, 24, some (.nils 21)⟩,
  ⟨35, .struct [(0, 1, false), (1, 1, false), (2, 5, true), (7, 1, false), (8, 5, true), (13, 1, false), (14, 1, false), (15, 1, false), (16, 1, false), (17, 1, false), (18, 1, false), (19, 1, false), (20, 1, false)], 21, 312, some (Z35)⟩,
  ⟨37, .struct [(0, 1, false), (1, 1, false), (2, 21, true), (23, 1, false), (24, 1, false)], 25, 368, some (Z37)⟩,
  ⟨38, .slice 152, 1, 24, some (.nils 2)⟩,
  ⟨39, .slice 249, 1, 24, some (.nils 2)⟩,
  ⟨41, .struct [(0, 1, false), (1, 1, false), (2, 1, false)], 3, 40, some (Z41)⟩,
  ⟨42, .slice 44, 1, 24, some (.nils 11)⟩,
  ⟨44, .struct [(0, 1, false), (1, 1, false), (2, 1, false), (3, 1, false), (4, 5, true), (9, 1, false), (10, 1, false)], 11, 184, some (Z44)⟩,
  ⟨45, .slice 47, 1, 24, some (.nils 25)⟩,
  ⟨47, .struct [(0, 1, false), (1, 1, false), (2, 5, true), (7, 1, false), (8, 1, false), (9, 1, false), (10, 3, true), (13, 11, true), (24, 1, false)], 25, 400, some (Z47)⟩,
  ⟨49, .struct [(0, 1, false), (1, 1, false), (2, 1, false), (3, 1, false), (4, 1, false), (5, 1, false), (6, 25, true)], 31, 456, some (Z49)⟩,
  ⟨50, .slice 52, 1, 24, some (.nils 78)⟩,
  ⟨52, .struct [(0, 1, false), (1, 1, false), (2, 5, true), (7, 5, true), (12, 5, true), (17, 25, true), (42, 31, true), (73, 1, false), (74, 1, false), (75, 1, false), (76, 1, false), (77, 1, false)], 78, 1168, some (Z52)⟩,
  ⟨54, .struct [(0, 1, false), (1, 1, false), (2, 1, false), (3, 1, false), (4, 78, true)], 82, 1208, some (Z54)⟩,
  ⟨57, .int .i64, 1, 8, some (.lf (.int .i64 0))⟩,
  ⟨63, .struct [(0, 1, false), (1, 1, false), (2, 1, false), (3, 1, false), (4, 1, false), (5, 1, false), (6, 1, false), (7, 1, false), (8, 1, false)], 9, 88, some (Z63)⟩,
  ⟨65, .slice 63, 1, 24, some (.nils 9)⟩,
  ⟨67, .struct [(0, 1, false), (1, 1, false), (2, 1, false), (3, 1, false)], 4, 48, some (Z67)⟩,
  ⟨79, .slice 25, 1, 24, some (.nils 12)⟩,
  ⟨81, .struct [(0, 1, false), (1, 1, false), (2, 1, false), (3, 1, false)], 4, 80, some (Z81)⟩,
  ⟨97, .struct [(0, 12, true), (12, 1, false), (13, 4, true)], 17, 216, some (Z97)⟩,
  ⟨124, .struct [(0, 1, false), (1, 1, false), (2, 1, false)], 3, 24, some (Z124)⟩,
  ⟨127, .struct [(0, 1, false), (1, 1, false), (2, 1, false), (3, 1, false), (4, 1, false), (5, 1, false), (6, 1, false), (7, 1, false), (8, 1, false), (9, 1, false)], 10, 10, some (Z127)⟩,
  ⟨138, .int .u64, 1, 8, some (.lf (.int .u64 0))⟩,
  ⟨152, .struct [(0, 1, false), (1, 1, false)], 2, 32, some (Z152)⟩,
  ⟨157, .int .i64, 1, 8, some (.lf (.int .i64 0))⟩,
  ⟨166, .int .u32, 1, 4, some (.lf (.int .u32 0))⟩,
  ⟨168, .int .u64, 1, 8, some (.lf (.int .u64 0))⟩,
  ⟨174, .struct [(0, 1, false), (1, 5, true)], 6, 96, some (Z174)⟩,
  ⟨195, .int .u64, 1, 8, some (.lf (.int .u64 0))⟩,
  ⟨208, .slice 5, 1, 24, some (.nils 1)⟩,
  ⟨217, .struct [(0, 1, false), (1, 21, true)], 22, 328, some (Z217)⟩,
  ⟨237, .map 9 4, 1, 8, some (.raw (.map none))⟩,
  ⟨249, .struct [(0, 1, false), (1, 1, false)], 2, 16, some (Z249)⟩,
  ⟨268, .int .u8, 1, 1, some (.lf (.int .u8 0))⟩,
  ⟨269, .int .u8, 1, 1, some (.lf (.int .u8 0))⟩,
  ⟨272, .int .i32, 1, 4, some (.lf (.int .i32 0))⟩,
  ⟨273, .int .i32, 1, 4, some (.lf (.int .i32 0))⟩]
theorem TTc_ok : ttb Tryz.prog TTc = true := by kernel_rfl
end Go.Proofs.YtdnafbfmaphhhaaGreatDoor
set_option linter.unusedSimpArgs false
set_option linter.unusedVariables false
namespace Go.Proofs.YtdnafbfmaphhhaaGreatDoor
open Go.RowKit
inductive Mo (ρ : Type) : Type 1 where
  | ret (f : Fit) (r : ρ)
  | stop
  | say (qs : List Ans) {Φ : List Prop} (ok : AllP Φ) (k : Mo ρ)
  | ite (b : Bool) (t : b = true → Mo ρ) (e : b = false → Mo ρ)
  | grd (p : Prop) [Decidable p] (k : p → Mo ρ)
  | ask {α : Type} (m : Option α) (k : (a : α) → m = some a → Mo ρ)
  | ask2 {α β : Type} (m : Option (α ⊕ β)) (k1 : (a : α) → m = some (.inl a) → Mo ρ) (k2 : (b : β) → m = some (.inr b) → Mo ρ)
  | ask3 {α β γ : Type} (m : Option (α ⊕ β ⊕ γ)) (k1 : (a : α) → m = some (.inl a) → Mo ρ) (k2 : (b : β) → m = some (.inr (.inl b)) → Mo ρ) (k3 : (c : γ) → m = some (.inr (.inr c)) → Mo ρ)
def bcase {α : Type} (b : Bool) (t : b = true → α) (e : b = false → α) : α := match b, t, e with
  | true, t, _ => t rfl
  | false, _, e => e rfl
def sbind {α ρ : Type} (m : Option α) (k : (a : α) → m = some a → Option ρ) : Option ρ := match m, k with
  | none, _ => none
  | some a, k => k a rfl
def sbind2 {α β ρ : Type} (m : Option (α ⊕ β)) (k1 : (a : α) → m = some (.inl a) → Option ρ) (k2 : (b : β) → m = some (.inr b) → Option ρ) : Option ρ := match m, k1, k2 with
  | none, _, _ => none
  | some (.inl a), k, _ => k a rfl
  | some (.inr b), _, k => k b rfl
def sbind3 {α β γ ρ : Type} (m : Option (α ⊕ β ⊕ γ)) (k1 : (a : α) → m = some (.inl a) → Option ρ) (k2 : (b : β) → m = some (.inr (.inl b)) → Option ρ) (k3 : (c : γ) → m = some (.inr (.inr c)) → Option ρ) : Option ρ := match m, k1, k2, k3 with
  | none, _, _, _ => none
  | some (.inl a), k, _, _ => k a rfl
  | some (.inr (.inl b)), _, k, _ => k b rfl
  | some (.inr (.inr c)), _, _, k => k c rfl
def gcase {ρ : Type} (p : Prop) [d : Decidable p] (k : p → Option ρ) : Option ρ := match d with
  | .isTrue h => k h
  | .isFalse _ => none
/-- what the tree computes -/
noncomputable def Mo.den {ρ : Type} : Mo ρ → Option ρ
  | .ret _ r => some r
  | .stop => none
  | .say _ _ k => k.den
  | .ite b t e => bcase b (fun h => (t h).den) (fun h => (e h).den)
  | @Mo.grd _ p d k => @gcase ρ p d fun h => (k h).den
  | .ask m k => sbind m fun a h => (k a h).den
  | .ask2 m k1 k2 => sbind2 m (fun a h => (k1 a h).den) (fun b h => (k2 b h).den)
  | .ask3 m k1 k2 k3 => sbind3 m (fun a h => (k1 a h).den) (fun b h => (k2 b h).den) (fun c h => (k3 c h).den)
theorem bcase_eq {α : Type} (b : Bool) (x y : α) : bcase b (fun _ => x) (fun _ => y) = bif b then x else y := by cases b <;> rfl
theorem gcase_eq {ρ : Type} (p : Prop) [d : Decidable p] (x : Option ρ) : gcase p (fun _ => x) = if p then x else none := by
  unfold gcase; cases d with
  | isTrue h => simp [h]
  | isFalse h => simp [h]
theorem sbind_eq {α ρ : Type} (m : Option α) (k : α → Option ρ) : sbind m (fun a _ => k a) = m.bind k := by cases m <;> rfl
theorem sbind2_eq {α β ρ : Type} (m : Option (α ⊕ β)) (k1 : α → Option ρ) (k2 : β → Option ρ) : sbind2 m (fun a _ => k1 a) (fun b _ => k2 b) = m.bind fun x => match x with
  | .inl a => k1 a
  | .inr b => k2 b := by rcases m with _ | _ | _ <;> rfl
theorem sbind3_eq {α β γ ρ : Type} (m : Option (α ⊕ β ⊕ γ)) (k1 : α → Option ρ) (k2 : β → Option ρ) (k3 : γ → Option ρ) : sbind3 m (fun a _ => k1 a) (fun b _ => k2 b) (fun c _ => k3 c) = m.bind fun x => match x with
  | .inl a => k1 a
  | .inr (.inl b) => k2 b
  | .inr (.inr c) => k3 c := by rcases m with _ | _ | _ | _ <;> rfl
theorem bcase_some {α : Type} {b : Bool} {t : b = true → Option α} {e : b = false → Option α} {r : α} (h : bcase b t e = some r) : (∃ hb, t hb = some r) ∨ ∃ hb, e hb = some r := by
  cases b
  · exact .inr ⟨rfl, h⟩
  · exact .inl ⟨rfl, h⟩
theorem gcase_some {ρ : Type} {p : Prop} {d : Decidable p} {k : p → Option ρ} {r : ρ} (h : gcase p k = some r) : ∃ hp, k hp = some r := by
  cases d with
  | isTrue hh => exact ⟨hh, h⟩
  | isFalse hh => cases h
theorem sbind_some {α ρ : Type} {m : Option α} {k : (a : α) → m = some a → Option ρ} {r : ρ} (h : sbind m k = some r) : ∃ a ha, k a ha = some r := by
  cases m with
  | none => cases h
  | some a => exact ⟨a, rfl, h⟩
theorem sbind2_some {α β ρ : Type} {m : Option (α ⊕ β)} {k1 : (a : α) → m = some (.inl a) → Option ρ} {k2 : (b : β) → m = some (.inr b) → Option ρ} {r : ρ} (h : sbind2 m k1 k2 = some r) : (∃ a ha, k1 a ha = some r) ∨ ∃ b hb, k2 b hb = some r := by
  rcases m with _ | a | b
  · cases h
  · exact .inl ⟨a, rfl, h⟩
  · exact .inr ⟨b, rfl, h⟩
theorem sbind3_some {α β γ ρ : Type} {m : Option (α ⊕ β ⊕ γ)} {k1 : (a : α) → m = some (.inl a) → Option ρ} {k2 : (b : β) → m = some (.inr (.inl b)) → Option ρ} {k3 : (c : γ) → m = some (.inr (.inr c)) → Option ρ} {r : ρ} (h : sbind3 m k1 k2 k3 = some r) : (∃ a ha, k1 a ha = some r) ∨ (∃ b hb, k2 b hb = some r) ∨ ∃ c hc, k3 c hc = some r := by
  rcases m with _ | a | b | c
  · cases h
  · exact .inl ⟨a, rfl, h⟩
  · exact .inr (.inl ⟨b, rfl, h⟩)
  · exact .inr (.inr ⟨c, rfl, h⟩)
inductive Ob (ω : Type) : Type 1 where
  | leaf (o : ω)
  | two (a b : Ob ω)
  | im {p : Prop} (k : p → Ob ω)
  | fn {α : Type} {p : α → Prop} (k : (a : α) → p a → Ob ω)
section
variable {ρ ω : Type}
/-- what the code does, along the tree -/
def Mo.lhs (run : Fit → List Ans → ω) : Mo ρ → List Ans → Ob ω
  | .ret f _, acc => .leaf (run f acc.reverse)
  | .stop, _ => .im (p := False) fun h => h.elim
  | .say qs _ k, acc => k.lhs run (qs.reverseAux acc)
  | .ite _ t e, acc => .two (.im fun h => (t h).lhs run acc) (.im fun h => (e h).lhs run acc)
  | @Mo.grd _ _ _ k, acc => .im fun h => (k h).lhs run acc
  | .ask _ k, acc => .fn fun a h => (k a h).lhs run acc
  | .ask2 _ k1 k2, acc => .two (.fn fun a h => (k1 a h).lhs run acc) (.fn fun a h => (k2 a h).lhs run acc)
  | .ask3 _ k1 k2 k3, acc => .two (.fn fun a h => (k1 a h).lhs run acc) (.two (.fn fun a h => (k2 a h).lhs run acc) (.fn fun a h => (k3 a h).lhs run acc))
/-- what it should do -/
def Mo.rhs (exp : ρ → List Prop → ω) : Mo ρ → List Prop → Ob ω
  | .ret _ r, acc => .leaf (exp r acc.reverse)
  | .stop, _ => .im (p := False) fun h => h.elim
  | .say (Φ := Φ) _ _ k, acc => k.rhs exp (Φ.reverseAux acc)
  | .ite _ t e, acc => .two (.im fun h => (t h).rhs exp acc) (.im fun h => (e h).rhs exp acc)
  | @Mo.grd _ _ _ k, acc => .im fun h => (k h).rhs exp acc
  | .ask _ k, acc => .fn fun a h => (k a h).rhs exp acc
  | .ask2 _ k1 k2, acc => .two (.fn fun a h => (k1 a h).rhs exp acc) (.fn fun a h => (k2 a h).rhs exp acc)
  | .ask3 _ k1 k2 k3, acc => .two (.fn fun a h => (k1 a h).rhs exp acc) (.two (.fn fun a h => (k2 a h).rhs exp acc) (.fn fun a h => (k3 a h).rhs exp acc))
theorem AllP.rev : ∀ (l m : List Prop), AllP l → AllP m → AllP (l.reverseAux m)
  | [], _, _, h => h
  | _ :: l, m, hl, h => AllP.rev l (_ :: m) hl.2 ⟨hl.1, h⟩
theorem Ob.fn_inj {α : Type} {p : α → Prop} {k k' : (a : α) → p a → Ob ω} (h : Ob.fn k = Ob.fn k') : ∀ a h, k a h = k' a h := by
  injection h with _ _ h; intro a ha; rw [h]
theorem Ob.im_inj {p : Prop} {k k' : p → Ob ω} (h : Ob.im k = Ob.im k') : ∀ h, k h = k' h := by
  injection h with _ h; intro a; rw [h]
theorem Ob.two_inj {a b c d : Ob ω} (h : Ob.two a b = Ob.two c d) : a = c ∧ b = d := by
  injection h with h1 h2; exact ⟨h1, h2⟩
theorem Ob.leaf_inj {a b : ω} (h : Ob.leaf a = Ob.leaf b) : a = b := by injection h
theorem Mo.sound {run : Fit → List Ans → ω} {exp : ρ → List Prop → ω} : ∀ (t : Mo ρ) (qs : List Ans) (ps : List Prop), AllP ps → t.lhs run qs = t.rhs exp ps → ∀ r, t.den = some r → ∃ f qs p, run f qs = exp r p ∧ AllP p
  | .ret f r, qs, ps, hp, h, r', hd => by
    injection hd with hd; subst hd
    exact ⟨f, _, _, Ob.leaf_inj h, AllP.rev ps [] hp trivial⟩
  | .stop, qs, ps, hp, h, r, hd => by cases hd
  | .say q ok k, qs, ps, hp, h, r, hd => Mo.sound k _ _ (AllP.rev _ _ ok hp) h r hd
  | .ite b t e, qs, ps, hp, h, r, hd => by
    obtain ⟨h1, h2⟩ := Ob.two_inj h
    rcases bcase_some hd with ⟨hb, hd⟩ | ⟨hb, hd⟩
    · exact Mo.sound (t hb) _ _ hp (Ob.im_inj h1 hb) r hd
    · exact Mo.sound (e hb) _ _ hp (Ob.im_inj h2 hb) r hd
  | @Mo.grd _ p d k, qs, ps, hp, h, r, hd => by
    obtain ⟨hh, hd⟩ := gcase_some hd
    exact Mo.sound (k hh) _ _ hp (Ob.im_inj h hh) r hd
  | .ask m k, qs, ps, hp, h, r, hd => by
    obtain ⟨a, ha, hd⟩ := sbind_some hd
    exact Mo.sound (k a ha) _ _ hp (Ob.fn_inj h a ha) r hd
  | .ask2 m k1 k2, qs, ps, hp, h, r, hd => by
    obtain ⟨h1, h2⟩ := Ob.two_inj h
    rcases sbind2_some hd with ⟨a, ha, hd⟩ | ⟨a, ha, hd⟩
    · exact Mo.sound (k1 a ha) _ _ hp (Ob.fn_inj h1 a ha) r hd
    · exact Mo.sound (k2 a ha) _ _ hp (Ob.fn_inj h2 a ha) r hd
  | .ask3 m k1 k2 k3, qs, ps, hp, h, r, hd => by
    obtain ⟨h1, h2⟩ := Ob.two_inj h
    obtain ⟨h2, h3⟩ := Ob.two_inj h2
    rcases sbind3_some hd with ⟨a, ha, hd⟩ | ⟨a, ha, hd⟩ | ⟨a, ha, hd⟩
    · exact Mo.sound (k1 a ha) _ _ hp (Ob.fn_inj h1 a ha) r hd
    · exact Mo.sound (k2 a ha) _ _ hp (Ob.fn_inj h2 a ha) r hd
    · exact Mo.sound (k3 a ha) _ _ hp (Ob.fn_inj h3 a ha) r hd
end
section
variable {P : Program} {G : Gh → Prop} {tt : TT} {ρ σ : Type}
/-- a part -/
theorem part_T (hB : Base P G tt) {nt k0 : Nat} {code : Code} {st : St} (t : Mo ρ) (X : ρ → Exit) (S : ρ → St) (h : t.lhs (fun f qs => exX P G tt nt k0 code st qs f) [] = t.rhs (fun r p => some (X r, S r, p)) []) {r : ρ} (hm : t.den = some r) : AWa P G tt nt k0 code (X r) (S r) st := fun s => by
  obtain ⟨f, qs, p, h1, h2⟩ := Mo.sound t [] [] trivial h r hm
  exact aw_exX hB s qs f p h1 h2
theorem seg_T (hB : Base P G tt) {nt k0 : Nat} {code : Code} {l : List Nat} {st : St} (t : Mo ρ) (S : ρ → St) (h : t.lhs (fun f qs => exO P G tt nt k0 code l st qs f) [] = t.rhs (fun r p => some (S r, p)) []) {r : ρ} (hm : t.den = some r) : AWoa P G tt nt k0 code l (S r) st := by
  obtain ⟨f, qs, p, h1, h2⟩ := Mo.sound t [] [] trivial h r hm
  exact aw_exO hB qs f p h1 h2
/-- a loop's model: the body tells the next head, or the way out -/
def loopM (T : σ → Option (σ ⊕ ρ)) : Nat → σ → Option ρ
  | 0, _ => none
  | n + 1, v => (T v).bind fun x => match x with
    | .inl v' => loopM T n v'
    | .inr r => some r
theorem loop_T (hB : Base P G tt) {nt k0 : Nat} {code body : Code} (hc : code = .loop body) (T : σ → Mo (σ ⊕ ρ)) (S0 : σ → St) (X : ρ → Exit) (S : ρ → St) (hX : ∀ r, notN (X r) = true)
    (h : ∀ v, (T v).lhs (fun f qs => exX P G tt nt k0 body (S0 v) qs f) [] = (T v).rhs (fun x p => match x with | .inl v' => some (.normal, S0 v', p) | .inr r => some (X r, S r, p)) []) :
    ∀ {n : Nat} {v : σ} {r : ρ}, loopM (fun v => (T v).den) n v = some r → AWa P G tt nt k0 code (X r) (S r) (S0 v) := by
  subst hc
  have key : ∀ (n : Nat) (v : σ) (r : ρ), loopM (fun v => (T v).den) n v = some r → ∀ s : Sur k0, AL (mkC P G tt nt s) body (X r) (S r) (S0 v) := by
    intro n
    induction n with
    | zero => intro v r hr; cases hr
    | succ n ih =>
      intro v r hr s
      unfold loopM at hr
      rw [Option.bind_eq_some_iff] at hr
      obtain ⟨x, hx, hr⟩ := hr
      obtain ⟨f, qs, p, h1, h2⟩ := Mo.sound (T v) [] [] trivial (h v) x hx
      cases x with
      | inl v' => exact AL.next (aw_exX hB s qs f p h1 h2) (ih v' r hr s)
      | inr r' =>
        injection hr with hr; subst hr
        exact AL.stop (aw_exX hB s qs f p h1 h2) (hX r')
  exact fun {n v r} hr s => AL.loop (key n v r hr s)
/-- a function -/
theorem fn_TH (hB : Base P G tt) {f : FuncId} {fn : Func} (hf : P.funcs[f]? = some fn) (hbd : fn.body.isSome = true) (hcall : callB P f = true) {args : List AV} {H0 : List Slot} (hnt : Nat.ble args.length fn.ntmps = true)
    (t : Mo ρ) (L : ρ → List AV) (HH : ρ → List Slot) (h : t.lhs (fun f qs => exF P G tt fn args H0 qs f) [] = t.rhs (fun r p => some (L r, HH r, p)) []) {r : ρ} (hm : t.den = some r) : FnH P G f args H0 (resV (L r)) (HH r) := by
  obtain ⟨ft, qs, p, h1, h2⟩ := Mo.sound t [] [] trivial h r hm
  exact fn_exF hB hf hbd hcall hnt qs ft p h1 h2
theorem fn_T (hB : Base P G tt) {f : FuncId} {fn : Func} (hf : P.funcs[f]? = some fn) (hbd : fn.body.isSome = true) (hcall : callB P f = true) {args : List AV} (hnt : Nat.ble args.length fn.ntmps = true)
    (t : Mo ρ) (L : ρ → List AV) (h : t.lhs (fun f qs => exF P G tt fn args [] qs f) [] = t.rhs (fun r p => some (L r, [], p)) []) {r : ρ} (hm : t.den = some r) : Fn P G f args (resV (L r)) :=
  Fn.of_H (fn_TH hB hf hbd hcall hnt t L (fun _ => []) h hm)
end
theorem ok0 : AllP [] := trivial
theorem ok1 {a : Prop} (h : a) : AllP [a] := ⟨h, trivial⟩
theorem ok2 {a b : Prop} (h : a) (k : b) : AllP [a, b] := ⟨h, k, trivial⟩
theorem okc {a : Prop} {l : List Prop} (h : a) (k : AllP l) : AllP (a :: l) := ⟨h, k⟩
/-- nothing but the first n results is kept -/
def fitN (n : Nat) : Fit := ⟨[], List.range n, [], 0⟩
end Go.Proofs.YtdnafbfmaphhhaaGreatDoor
