/- Proved here: each function does what its functional text says (part 1). -/
import Derived.Test.YtdgljcpjcgldfaaGreatDoorAbA3
import Derived.Test.YtdgljcpjcgldfaaGreatDoorAbFt1
import Derived.Test.YtdgljcpjcgldfaaGreatDoorProg
import Derived.KernelRfl
set_option linter.unusedVariables false
set_option linter.unusedSimpArgs false
set_option linter.unusedSectionVars false
namespace Go.Ft
open Go Go.Abs
@[reducible] def iA.cells (x:iA):List PV:=[.str x.text,.int .i64 x.form]
theorem iA.au (x:iA):iA.cells x=[.str x.text,.int .i64 x.form]:=rfl
theorem iA.bF (x:iA):(iA.cells x).length=2:=by rw [iA.au]; rfl
theorem iA.cells_one (x:iA):(iA.cells x).all PV.one=true:=by rw [iA.au]; rfl
@[reducible] def aP.cells (x:aP):List PV:=[.int .i64 x.form,.str x.name,.int .i64 x.n]
theorem aP.au (x:aP):aP.cells x=[.int .i64 x.form,.str x.name,.int .i64 x.n]:=rfl
theorem aP.bF (x:aP):(aP.cells x).length=3:=by rw [aP.au]; rfl
theorem aP.cells_one (x:aP):(aP.cells x).all PV.one=true:=by rw [aP.au]; rfl
@[reducible] def av.cells (x:av):List PV:=[.str x.iD,.list (List.map aO x.labels),.int .i64 x.trust,.int .i64 x.slots,.bool x.bq,.int .i64 x.phase,.int .i64 x.jv,.int .i64 x.dw,.list (List.map jr x.tokens)]
theorem av.au (x:av):av.cells x=[.str x.iD,.list (List.map aO x.labels),.int .i64 x.trust,.int .i64 x.slots,.bool x.bq,.int .i64 x.phase,.int .i64 x.jv,.int .i64 x.dw,.list (List.map jr x.tokens)]:=rfl
theorem av.bF (x:av):(av.cells x).length=9:=by rw [av.au]; rfl
theorem av.cells_one (x:av):(av.cells x).all PV.one=true:=by rw [av.au]; rfl
@[reducible] def bf.cells (x:bf):List PV:=[.str x.run,.str x.job]
theorem bf.au (x:bf):bf.cells x=[.str x.run,.str x.job]:=rfl
theorem bf.bF (x:bf):(bf.cells x).length=2:=by rw [bf.au]; rfl
theorem bf.cells_one (x:bf):(bf.cells x).all PV.one=true:=by rw [bf.au]; rfl
@[reducible] def bE.cells (x:bE):List PV:=[.int .i64 x.token,.str x.ref.run,.str x.ref.job,.int .i64 x.attempt,.str x.worker,.int .i64 x.granted,.int .i64 x.expires]
theorem bE.au (x:bE):bE.cells x=[.int .i64 x.token,.str x.ref.run,.str x.ref.job,.int .i64 x.attempt,.str x.worker,.int .i64 x.granted,.int .i64 x.expires]:=rfl
theorem bE.bF (x:bE):(bE.cells x).length=7:=by rw [bE.au]; rfl
theorem bE.cells_one (x:bE):(bE.cells x).all PV.one=true:=by rw [bE.au]; rfl
mutual
def aD.cells :aD→List PV
  | ⟨a0,a1,a2,a3,a4,a5⟩=>[.int .i64 a0,.bool a1,.int .i64 a2,.str a3,.list (aD.bS a4),.list (List.map aO a5)]
def aD.bS :List aD→List (List PV)
  | []=>[]
  | x :: xs=>aD.cells x :: aD.bS xs
end
theorem aD.au (x:aD):aD.cells x=[.int .i64 x.kind,.bool x.jN,.int .i64 x.ng,.str x.mP,.list (aD.bS x.jk),.list (List.map aO x.keys)]:=by cases x; rfl
theorem aD.tT :∀ l:List aD,aD.bS l=l.map aD.cells
  | []=>rfl
  | _ :: l=>congrArg _ (aD.tT l)
def aD.Iu (l:List aD):List PV:=[.list (aD.bS l)]
theorem aD.bF (x:aD):(aD.cells x).length=6:=by rw [aD.au]; rfl
theorem aD.cells_one (x:aD):(aD.cells x).all PV.one=true:=by rw [aD.au]; rfl
mutual
def aL.cells :aL→List PV
  | ⟨a0,a1,a2,a3,a4⟩=>[.int .i64 a0,.str a1,.int .i64 a2.kind,.bool a2.jN,.int .i64 a2.ng,.str a2.mP,.list (aD.bS a2.jk),.list (List.map aO a2.keys),.list (aL.bS a3),.list (List.map aO a4)]
def aL.bS :List aL→List (List PV)
  | []=>[]
  | x :: xs=>aL.cells x :: aL.bS xs
end
theorem aL.au (x:aL):aL.cells x=[.int .i64 x.kind,.str x.name,.int .i64 x.value.kind,.bool x.value.jN,.int .i64 x.value.ng,.str x.value.mP,.list (aD.bS x.value.jk),.list (List.map aO x.value.keys),.list (aL.bS x.args),.list (List.map aO x.keys)]:=by cases x; rfl
theorem aL.tT :∀ l:List aL,aL.bS l=l.map aL.cells
  | []=>rfl
  | _ :: l=>congrArg _ (aL.tT l)
def aL.Iu (l:List aL):List PV:=[.list (aL.bS l)]
theorem aL.bF (x:aL):(aL.cells x).length=10:=by rw [aL.au]; rfl
theorem aL.cells_one (x:aL):(aL.cells x).all PV.one=true:=by rw [aL.au]; rfl
@[reducible] def bK.cells (x:bK):List PV:=[.str x.name,.int .i64 x.value.kind,.bool x.value.jN,.int .i64 x.value.ng,.str x.value.mP,.list (aD.bS x.value.jk),.list (List.map aO x.value.keys)]
theorem bK.au (x:bK):bK.cells x=[.str x.name,.int .i64 x.value.kind,.bool x.value.jN,.int .i64 x.value.ng,.str x.value.mP,.list (aD.bS x.value.jk),.list (List.map aO x.value.keys)]:=rfl
theorem bK.bF (x:bK):(bK.cells x).length=7:=by rw [bK.au]; rfl
theorem bK.cells_one (x:bK):(bK.cells x).all PV.one=true:=by rw [bK.au]; rfl
@[reducible] def bI.cells (x:bI):List PV:=[.int .i64 x.op,.str x.name,.str x.text,.int .i64 x.n]
theorem bI.au (x:bI):bI.cells x=[.int .i64 x.op,.str x.name,.str x.text,.int .i64 x.n]:=rfl
theorem bI.bF (x:bI):(bI.cells x).length=4:=by rw [bI.au]; rfl
theorem bI.cells_one (x:bI):(bI.cells x).all PV.one=true:=by rw [bI.au]; rfl
@[reducible] def bV.cells (x:bV):List PV:=[.int .i64 x.max,.list (List.map jr x.classes),.int .i64 x.base,.int .i64 x.cap]
theorem bV.au (x:bV):bV.cells x=[.int .i64 x.max,.list (List.map jr x.classes),.int .i64 x.base,.int .i64 x.cap]:=rfl
theorem bV.bF (x:bV):(bV.cells x).length=4:=by rw [bV.au]; rfl
theorem bV.cells_one (x:bV):(bV.cells x).all PV.one=true:=by rw [bV.au]; rfl
@[reducible] def aJ.cells (x:aJ):List PV:=[.str x.key,.list (List.map aO x.restore),.list (List.map aO x.files)]
theorem aJ.au (x:aJ):aJ.cells x=[.str x.key,.list (List.map aO x.restore),.list (List.map aO x.files)]:=rfl
theorem aJ.bF (x:aJ):(aJ.cells x).length=3:=by rw [aJ.au]; rfl
theorem aJ.cells_one (x:aJ):(aJ.cells x).all PV.one=true:=by rw [aJ.au]; rfl
@[reducible] def aZ.cells (x:aZ):List PV:=[.int .i64 x.dJ,.list (List.map aO x.dI),.int .i64 x.iw]
theorem aZ.au (x:aZ):aZ.cells x=[.int .i64 x.dJ,.list (List.map aO x.dI),.int .i64 x.iw]:=rfl
theorem aZ.bF (x:aZ):(aZ.cells x).length=3:=by rw [aZ.au]; rfl
theorem aZ.cells_one (x:aZ):(aZ.cells x).all PV.one=true:=by rw [aZ.au]; rfl
@[reducible] def eF.cells (x:eF):List PV:=[.str x.iD,.list (List.map aO x.needs),.int .i64 x.when.kind,.str x.when.name,.int .i64 x.when.value.kind,.bool x.when.value.jN,.int .i64 x.when.value.ng,.str x.when.value.mP,.list (aD.bS x.when.value.jk),.list (List.map aO x.when.value.keys),.list (aL.bS x.when.args),.list (List.map aO x.when.keys),.list (List.map bK.cells x.vars),.list (List.map bI.cells x.steps),.list (List.map aO x.labels),.str x.group,.int .i64 x.policy,.int .i64 x.priority,.int .i64 x.cost,.int .i64 x.timeout,.int .i64 x.retry.max,.list (List.map jr x.retry.classes),.int .i64 x.retry.base,.int .i64 x.retry.cap,.list (List.map aO x.inputs),.list (List.map aO x.uses),.list (List.map aO x.outputs),.list (List.map aJ.cells x.caches),.list (List.map aO x.bL),.str x.environment,.bool x.jY,.int .i64 x.gate.dJ,.list (List.map aO x.gate.dI),.int .i64 x.gate.iw,.list (List.map aO x.tests),.int .i64 x.l5,.int .i64 x.jA,.bool x.gI,.bool x.child]
theorem eF.au (x:eF):eF.cells x=[.str x.iD,.list (List.map aO x.needs),.int .i64 x.when.kind,.str x.when.name,.int .i64 x.when.value.kind,.bool x.when.value.jN,.int .i64 x.when.value.ng,.str x.when.value.mP,.list (aD.bS x.when.value.jk),.list (List.map aO x.when.value.keys),.list (aL.bS x.when.args),.list (List.map aO x.when.keys),.list (List.map bK.cells x.vars),.list (List.map bI.cells x.steps),.list (List.map aO x.labels),.str x.group,.int .i64 x.policy,.int .i64 x.priority,.int .i64 x.cost,.int .i64 x.timeout,.int .i64 x.retry.max,.list (List.map jr x.retry.classes),.int .i64 x.retry.base,.int .i64 x.retry.cap,.list (List.map aO x.inputs),.list (List.map aO x.uses),.list (List.map aO x.outputs),.list (List.map aJ.cells x.caches),.list (List.map aO x.bL),.str x.environment,.bool x.jY,.int .i64 x.gate.dJ,.list (List.map aO x.gate.dI),.int .i64 x.gate.iw,.list (List.map aO x.tests),.int .i64 x.l5,.int .i64 x.jA,.bool x.gI,.bool x.child]:=rfl
theorem eF.bF (x:eF):(eF.cells x).length=39:=by rw [eF.au]; rfl
theorem eF.cells_one (x:eF):(eF.cells x).all PV.one=true:=by rw [eF.au]; rfl
@[reducible] def aM.cells (x:aM):List PV:=[.str x.project,.str x.ref,.bool x.fork]
theorem aM.au (x:aM):aM.cells x=[.str x.project,.str x.ref,.bool x.fork]:=rfl
theorem aM.bF (x:aM):(aM.cells x).length=3:=by rw [aM.au]; rfl
theorem aM.cells_one (x:aM):(aM.cells x).all PV.one=true:=by rw [aM.au]; rfl
@[reducible] def aF.cells (x:aF):List PV:=[.str x.name,.str x.text,.int .i64 x.level,.list (List.map aO x.refs),.list (List.map aO x.environments)]
theorem aF.au (x:aF):aF.cells x=[.str x.name,.str x.text,.int .i64 x.level,.list (List.map aO x.refs),.list (List.map aO x.environments)]:=rfl
theorem aF.bF (x:aF):(aF.cells x).length=5:=by rw [aF.au]; rfl
theorem aF.cells_one (x:aF):(aF.cells x).all PV.one=true:=by rw [aF.au]; rfl
@[reducible] def ah.cells (x:ah):List PV:=[.str x.name,.int .u64 (x.digest.toNat:Int),.int .i64 x.size]
theorem ah.au (x:ah):ah.cells x=[.str x.name,.int .u64 (x.digest.toNat:Int),.int .i64 x.size]:=rfl
theorem ah.bF (x:ah):(ah.cells x).length=3:=by rw [ah.au]; rfl
theorem ah.cells_one (x:ah):(ah.cells x).all PV.one=true:=by rw [ah.au]; rfl
@[reducible] def bU.cells (x:bU):List PV:=[.str x.project,.int .i64 x.trust,.str x.ref]
theorem bU.au (x:bU):bU.cells x=[.str x.project,.int .i64 x.trust,.str x.ref]:=rfl
theorem bU.bF (x:bU):(bU.cells x).length=3:=by rw [bU.au]; rfl
theorem bU.cells_one (x:bU):(bU.cells x).all PV.one=true:=by rw [bU.au]; rfl
@[reducible] def aC.cells (x:aC):List PV:=[.str x.scope.project,.int .i64 x.scope.trust,.str x.scope.ref,.str x.key,.int .u64 (x.digest.toNat:Int),.int .i64 x.size,.int .i64 x.created,.int .i64 x.used]
theorem aC.au (x:aC):aC.cells x=[.str x.scope.project,.int .i64 x.scope.trust,.str x.scope.ref,.str x.key,.int .u64 (x.digest.toNat:Int),.int .i64 x.size,.int .i64 x.created,.int .i64 x.used]:=rfl
theorem aC.bF (x:aC):(aC.cells x).length=8:=by rw [aC.au]; rfl
theorem aC.cells_one (x:aC):(aC.cells x).all PV.one=true:=by rw [aC.au]; rfl
@[reducible] def aH.cells (x:aH):List PV:=[.str x.name,.int .i64 x.time]
theorem aH.au (x:aH):aH.cells x=[.str x.name,.int .i64 x.time]:=rfl
theorem aH.bF (x:aH):(aH.cells x).length=2:=by rw [aH.au]; rfl
theorem aH.cells_one (x:aH):(aH.cells x).all PV.one=true:=by rw [aH.au]; rfl
@[reducible] def aI.cells (x:aI):List PV:=[.int .i64 x.bQ.token,.str x.bQ.ref.run,.str x.bQ.ref.job,.int .i64 x.bQ.attempt,.str x.bQ.worker,.int .i64 x.bQ.granted,.int .i64 x.bQ.expires,.str x.job.iD,.list (List.map aO x.job.needs),.int .i64 x.job.when.kind,.str x.job.when.name,.int .i64 x.job.when.value.kind,.bool x.job.when.value.jN,.int .i64 x.job.when.value.ng,.str x.job.when.value.mP,.list (aD.bS x.job.when.value.jk),.list (List.map aO x.job.when.value.keys),.list (aL.bS x.job.when.args),.list (List.map aO x.job.when.keys),.list (List.map bK.cells x.job.vars),.list (List.map bI.cells x.job.steps),.list (List.map aO x.job.labels),.str x.job.group,.int .i64 x.job.policy,.int .i64 x.job.priority,.int .i64 x.job.cost,.int .i64 x.job.timeout,.int .i64 x.job.retry.max,.list (List.map jr x.job.retry.classes),.int .i64 x.job.retry.base,.int .i64 x.job.retry.cap,.list (List.map aO x.job.inputs),.list (List.map aO x.job.uses),.list (List.map aO x.job.outputs),.list (List.map aJ.cells x.job.caches),.list (List.map aO x.job.bL),.str x.job.environment,.bool x.job.jY,.int .i64 x.job.gate.dJ,.list (List.map aO x.job.gate.dI),.int .i64 x.job.gate.iw,.list (List.map aO x.job.tests),.int .i64 x.job.l5,.int .i64 x.job.jA,.bool x.job.gI,.bool x.job.child,.str x.origin.project,.str x.origin.ref,.bool x.origin.fork,.list (List.map aF.cells x.bL),.list (List.map ah.cells x.artifacts),.list (List.map aC.cells x.entries),.list (List.map aO x.tests),.list (List.map aH.cells x.times),.list (List.map aO x.ignored)]
theorem aI.au (x:aI):aI.cells x=[.int .i64 x.bQ.token,.str x.bQ.ref.run,.str x.bQ.ref.job,.int .i64 x.bQ.attempt,.str x.bQ.worker,.int .i64 x.bQ.granted,.int .i64 x.bQ.expires,.str x.job.iD,.list (List.map aO x.job.needs),.int .i64 x.job.when.kind,.str x.job.when.name,.int .i64 x.job.when.value.kind,.bool x.job.when.value.jN,.int .i64 x.job.when.value.ng,.str x.job.when.value.mP,.list (aD.bS x.job.when.value.jk),.list (List.map aO x.job.when.value.keys),.list (aL.bS x.job.when.args),.list (List.map aO x.job.when.keys),.list (List.map bK.cells x.job.vars),.list (List.map bI.cells x.job.steps),.list (List.map aO x.job.labels),.str x.job.group,.int .i64 x.job.policy,.int .i64 x.job.priority,.int .i64 x.job.cost,.int .i64 x.job.timeout,.int .i64 x.job.retry.max,.list (List.map jr x.job.retry.classes),.int .i64 x.job.retry.base,.int .i64 x.job.retry.cap,.list (List.map aO x.job.inputs),.list (List.map aO x.job.uses),.list (List.map aO x.job.outputs),.list (List.map aJ.cells x.job.caches),.list (List.map aO x.job.bL),.str x.job.environment,.bool x.job.jY,.int .i64 x.job.gate.dJ,.list (List.map aO x.job.gate.dI),.int .i64 x.job.gate.iw,.list (List.map aO x.job.tests),.int .i64 x.job.l5,.int .i64 x.job.jA,.bool x.job.gI,.bool x.job.child,.str x.origin.project,.str x.origin.ref,.bool x.origin.fork,.list (List.map aF.cells x.bL),.list (List.map ah.cells x.artifacts),.list (List.map aC.cells x.entries),.list (List.map aO x.tests),.list (List.map aH.cells x.times),.list (List.map aO x.ignored)]:=rfl
theorem aI.bF (x:aI):(aI.cells x).length=55:=by rw [aI.au]; rfl
theorem aI.cells_one (x:aI):(aI.cells x).all PV.one=true:=by rw [aI.au]; rfl
@[reducible] def ak.cells (x:ak):List PV:=[.str x.name,.int .i64 x.status,.int .i64 x.time]
theorem ak.au (x:ak):ak.cells x=[.str x.name,.int .i64 x.status,.int .i64 x.time]:=rfl
theorem ak.bF (x:ak):(ak.cells x).length=3:=by rw [ak.au]; rfl
theorem ak.cells_one (x:ak):(ak.cells x).all PV.one=true:=by rw [ak.au]; rfl
@[reducible] def aS.cells (x:aS):List PV:=[.int .i64 x.status,.int .i64 x.eD,.list (List.map ah.cells x.inputs),.list (List.map ah.cells x.outputs),.list (List.map ak.cells x.tests),.str x.child]
theorem aS.au (x:aS):aS.cells x=[.int .i64 x.status,.int .i64 x.eD,.list (List.map ah.cells x.inputs),.list (List.map ah.cells x.outputs),.list (List.map ak.cells x.tests),.str x.child]:=rfl
theorem aS.bF (x:aS):(aS.cells x).length=6:=by rw [aS.au]; rfl
theorem aS.cells_one (x:aS):(aS.cells x).all PV.one=true:=by rw [aS.au]; rfl
@[reducible] def bB.cells (x:bB):List PV:=[.int .i64 x.result.status,.int .i64 x.result.eD,.list (List.map ah.cells x.result.inputs),.list (List.map ah.cells x.result.outputs),.list (List.map ak.cells x.result.tests),.str x.result.child,.str x.log,.int .i64 x.time,.list (List.map aC.cells x.saves)]
theorem bB.au (x:bB):bB.cells x=[.int .i64 x.result.status,.int .i64 x.result.eD,.list (List.map ah.cells x.result.inputs),.list (List.map ah.cells x.result.outputs),.list (List.map ak.cells x.result.tests),.str x.result.child,.str x.log,.int .i64 x.time,.list (List.map aC.cells x.saves)]:=rfl
theorem bB.bF (x:bB):(bB.cells x).length=9:=by rw [bB.au]; rfl
theorem bB.cells_one (x:bB):(bB.cells x).all PV.one=true:=by rw [bB.au]; rfl
@[reducible] def aV.cells (x:aV):List PV:=[.int .i64 x.work.bQ.token,.str x.work.bQ.ref.run,.str x.work.bQ.ref.job,.int .i64 x.work.bQ.attempt,.str x.work.bQ.worker,.int .i64 x.work.bQ.granted,.int .i64 x.work.bQ.expires,.str x.work.job.iD,.list (List.map aO x.work.job.needs),.int .i64 x.work.job.when.kind,.str x.work.job.when.name,.int .i64 x.work.job.when.value.kind,.bool x.work.job.when.value.jN,.int .i64 x.work.job.when.value.ng,.str x.work.job.when.value.mP,.list (aD.bS x.work.job.when.value.jk),.list (List.map aO x.work.job.when.value.keys),.list (aL.bS x.work.job.when.args),.list (List.map aO x.work.job.when.keys),.list (List.map bK.cells x.work.job.vars),.list (List.map bI.cells x.work.job.steps),.list (List.map aO x.work.job.labels),.str x.work.job.group,.int .i64 x.work.job.policy,.int .i64 x.work.job.priority,.int .i64 x.work.job.cost,.int .i64 x.work.job.timeout,.int .i64 x.work.job.retry.max,.list (List.map jr x.work.job.retry.classes),.int .i64 x.work.job.retry.base,.int .i64 x.work.job.retry.cap,.list (List.map aO x.work.job.inputs),.list (List.map aO x.work.job.uses),.list (List.map aO x.work.job.outputs),.list (List.map aJ.cells x.work.job.caches),.list (List.map aO x.work.job.bL),.str x.work.job.environment,.bool x.work.job.jY,.int .i64 x.work.job.gate.dJ,.list (List.map aO x.work.job.gate.dI),.int .i64 x.work.job.gate.iw,.list (List.map aO x.work.job.tests),.int .i64 x.work.job.l5,.int .i64 x.work.job.jA,.bool x.work.job.gI,.bool x.work.job.child,.str x.work.origin.project,.str x.work.origin.ref,.bool x.work.origin.fork,.list (List.map aF.cells x.work.bL),.list (List.map ah.cells x.work.artifacts),.list (List.map aC.cells x.work.entries),.list (List.map aO x.work.tests),.list (List.map aH.cells x.work.times),.list (List.map aO x.work.ignored),.int .i64 x.began,.int .i64 x.done,.int .i64 x.effect.result.status,.int .i64 x.effect.result.eD,.list (List.map ah.cells x.effect.result.inputs),.list (List.map ah.cells x.effect.result.outputs),.list (List.map ak.cells x.effect.result.tests),.str x.effect.result.child,.str x.effect.log,.int .i64 x.effect.time,.list (List.map aC.cells x.effect.saves),.int .i64 x.sent,.int .i64 x.saved]
theorem aV.au (x:aV):aV.cells x=[.int .i64 x.work.bQ.token,.str x.work.bQ.ref.run,.str x.work.bQ.ref.job,.int .i64 x.work.bQ.attempt,.str x.work.bQ.worker,.int .i64 x.work.bQ.granted,.int .i64 x.work.bQ.expires,.str x.work.job.iD,.list (List.map aO x.work.job.needs),.int .i64 x.work.job.when.kind,.str x.work.job.when.name,.int .i64 x.work.job.when.value.kind,.bool x.work.job.when.value.jN,.int .i64 x.work.job.when.value.ng,.str x.work.job.when.value.mP,.list (aD.bS x.work.job.when.value.jk),.list (List.map aO x.work.job.when.value.keys),.list (aL.bS x.work.job.when.args),.list (List.map aO x.work.job.when.keys),.list (List.map bK.cells x.work.job.vars),.list (List.map bI.cells x.work.job.steps),.list (List.map aO x.work.job.labels),.str x.work.job.group,.int .i64 x.work.job.policy,.int .i64 x.work.job.priority,.int .i64 x.work.job.cost,.int .i64 x.work.job.timeout,.int .i64 x.work.job.retry.max,.list (List.map jr x.work.job.retry.classes),.int .i64 x.work.job.retry.base,.int .i64 x.work.job.retry.cap,.list (List.map aO x.work.job.inputs),.list (List.map aO x.work.job.uses),.list (List.map aO x.work.job.outputs),.list (List.map aJ.cells x.work.job.caches),.list (List.map aO x.work.job.bL),.str x.work.job.environment,.bool x.work.job.jY,.int .i64 x.work.job.gate.dJ,.list (List.map aO x.work.job.gate.dI),.int .i64 x.work.job.gate.iw,.list (List.map aO x.work.job.tests),.int .i64 x.work.job.l5,.int .i64 x.work.job.jA,.bool x.work.job.gI,.bool x.work.job.child,.str x.work.origin.project,.str x.work.origin.ref,.bool x.work.origin.fork,.list (List.map aF.cells x.work.bL),.list (List.map ah.cells x.work.artifacts),.list (List.map aC.cells x.work.entries),.list (List.map aO x.work.tests),.list (List.map aH.cells x.work.times),.list (List.map aO x.work.ignored),.int .i64 x.began,.int .i64 x.done,.int .i64 x.effect.result.status,.int .i64 x.effect.result.eD,.list (List.map ah.cells x.effect.result.inputs),.list (List.map ah.cells x.effect.result.outputs),.list (List.map ak.cells x.effect.result.tests),.str x.effect.result.child,.str x.effect.log,.int .i64 x.effect.time,.list (List.map aC.cells x.effect.saves),.int .i64 x.sent,.int .i64 x.saved]:=rfl
theorem aV.bF (x:aV):(aV.cells x).length=68:=by rw [aV.au]; rfl
theorem aV.cells_one (x:aV):(aV.cells x).all PV.one=true:=by rw [aV.au]; rfl
@[reducible] def aX.cells (x:aX):List PV:=[.str x.worker.iD,.list (List.map aO x.worker.labels),.int .i64 x.worker.trust,.int .i64 x.worker.slots,.bool x.worker.bq,.int .i64 x.worker.phase,.int .i64 x.worker.jv,.int .i64 x.worker.dw,.list (List.map jr x.worker.tokens),.bool x.up,.bool x.joined,.int .i64 x.jv,.int .i64 x.heard,.int .i64 x.dw,.list (List.map aV.cells x.tasks)]
theorem aX.au (x:aX):aX.cells x=[.str x.worker.iD,.list (List.map aO x.worker.labels),.int .i64 x.worker.trust,.int .i64 x.worker.slots,.bool x.worker.bq,.int .i64 x.worker.phase,.int .i64 x.worker.jv,.int .i64 x.worker.dw,.list (List.map jr x.worker.tokens),.bool x.up,.bool x.joined,.int .i64 x.jv,.int .i64 x.heard,.int .i64 x.dw,.list (List.map aV.cells x.tasks)]:=rfl
theorem aX.bF (x:aX):(aX.cells x).length=15:=by rw [aX.au]; rfl
theorem aX.cells_one (x:aX):(aX.cells x).all PV.one=true:=by rw [aX.au]; rfl
@[reducible] def aB.cells (x:aB):List PV:=[.int .i64 x.form,.str x.name,.int .i64 x.n]
theorem aB.au (x:aB):aB.cells x=[.int .i64 x.form,.str x.name,.int .i64 x.n]:=rfl
theorem aB.bF (x:aB):(aB.cells x).length=3:=by rw [aB.au]; rfl
theorem aB.cells_one (x:aB):(aB.cells x).all PV.one=true:=by rw [aB.au]; rfl
end Go.Ft
namespace Go.Proofs.YtdgljcpjcgldfaaGreatDoor
open Go Go.Abs Go.Ft
set_option maxRecDepth 20000
attribute [local irreducible] AO AR AW AC
class Hf [bX]:Prop where
  hD:¬ bX.D
  max:∀ (w:World) (m:cZ),bX.G w m→∃ n:Int,w.cell? ⟨0,0,none⟩=some (.int .i64 n)
  pow:∀ (w:World) (m:cZ),bX.G w m→Lib.TabIs Tryz.prog w "internal/strconv.uint64pow10" .u64 Lib.pow10Tab
  syn:∀ (w:World) (m:cZ),bX.G w m→∃ ev,w.cell? ⟨6,0,none⟩=some ev∧(ev=.nilIface∨∃ te pe,ev=.iface te pe)
  rng:∀ (w:World) (m:cZ),bX.G w m→∃ ev,w.cell? ⟨7,0,none⟩=some ev∧(ev=.nilIface∨∃ te pe,ev=.iface te pe)
variable [bX]
theorem Kj :jM Tryz.prog 333=some (3,2):=by kernel_rfl
theorem NY :Tryz.prog.cellsOf 5=1:=by kernel_rfl
theorem J4 :Tryz.prog.eqGuardType Tryz.prog.depth 161=false:=by kernel_rfl
theorem J3 :Tryz.prog.eqGuardType Tryz.prog.depth 164=false:=by kernel_rfl
theorem J2 :Tryz.prog.eqGuardType Tryz.prog.depth 203=false:=by kernel_rfl
theorem Lv :Tryz.prog.eqGuardType Tryz.prog.depth 48=false:=by kernel_rfl
theorem Lu :Tryz.prog.eqGuardType Tryz.prog.depth 57=false:=by kernel_rfl
theorem Ls :Tryz.prog.eqGuardType Tryz.prog.depth 68=false:=by kernel_rfl
theorem Io (a b:ah):Hl Tryz.prog 100 161 (.agg (ah.cells a)) (.agg (ah.cells b))=some (ah.Bo a b):=by kernel_rfl
theorem Im (a b:aH):Hl Tryz.prog 100 164 (.agg (aH.cells a)) (.agg (aH.cells b))=some (aH.Bo a b):=by kernel_rfl
theorem Il (a b:ak):Hl Tryz.prog 100 203 (.agg (ak.cells a)) (.agg (ak.cells b))=some (ak.Bo a b):=by kernel_rfl
theorem JY (a b:aM):Hl Tryz.prog 100 48 (.agg (aM.cells a)) (.agg (aM.cells b))=some (aM.Bo a b):=by kernel_rfl
theorem JX (a b:aC):Hl Tryz.prog 100 57 (.agg (aC.cells a)) (.agg (aC.cells b))=some (aC.Bo a b):=by kernel_rfl
theorem JW (a b:bE):Hl Tryz.prog 100 68 (.agg (bE.cells a)) (.agg (bE.cells b))=some (bE.Bo a b):=by kernel_rfl
theorem zO :elemSize Tryz.prog 180=some 1:=by kernel_rfl
theorem gP :elemSize Tryz.prog 22=some 1:=by kernel_rfl
theorem kI :elemSize Tryz.prog 23=some 1:=by kernel_rfl
theorem Cn :elemSize Tryz.prog 27=some 68:=by kernel_rfl
theorem Cm :elemSize Tryz.prog 58=some 3:=by kernel_rfl
theorem Ck :elemSize Tryz.prog 59=some 3:=by kernel_rfl
theorem I_ :elemSize Tryz.prog 75=some 4:=by kernel_rfl
theorem Cj :elemSize Tryz.prog 83=some 5:=by kernel_rfl
theorem Ci :elemSize Tryz.prog 84=some 8:=by kernel_rfl
theorem Ch :elemSize Tryz.prog 85=some 2:=by kernel_rfl
theorem Ll :jI Tryz.prog 211 0=some 0:=by kernel_rfl
theorem Lj :jI Tryz.prog 211 1=some 1:=by kernel_rfl
theorem Oh :∃ j,Tryz.prog.info? 211=some j∧(j.size != 0)=true:=sized (n:=2) (by kernel_rfl) rfl
theorem Nr :liesAt Tryz.prog Tryz.prog.depth 211 (2 / Tryz.prog.cellsOf 211) 0 211 1=true:=by kernel_rfl
theorem mixed :Tryz.prog.follows .mixedOrders=true:=by kernel_rfl
theorem Gc :Tryz.prog.underlying 183=some (.map 9 4):=by kernel_rfl
theorem JB :aU Tryz.prog 100=true:=by kernel_rfl
theorem FR :aU Tryz.prog 101=true:=by kernel_rfl
theorem JA :aU Tryz.prog 102=true:=by kernel_rfl
theorem Jz :aU Tryz.prog 104=true:=by kernel_rfl
theorem zB :aU Tryz.prog 107=true:=by kernel_rfl
theorem CY :aU Tryz.prog 108=true:=by kernel_rfl
theorem Jy :aU Tryz.prog 109=true:=by kernel_rfl
theorem Jw :aU Tryz.prog 136=true:=by kernel_rfl
theorem Jv :aU Tryz.prog 138=true:=by kernel_rfl
theorem FQ :aU Tryz.prog 139=true:=by kernel_rfl
theorem Ju :aU Tryz.prog 141=true:=by kernel_rfl
theorem Jt :aU Tryz.prog 142=true:=by kernel_rfl
theorem FP :aU Tryz.prog 143=true:=by kernel_rfl
theorem Js :aU Tryz.prog 144=true:=by kernel_rfl
theorem Jr :aU Tryz.prog 186=true:=by kernel_rfl
theorem Jq :aU Tryz.prog 187=true:=by kernel_rfl
theorem KX :aU Tryz.prog 21=true:=by kernel_rfl
theorem MG :aU Tryz.prog 211=true:=by kernel_rfl
theorem KW :aU Tryz.prog 27=true:=by kernel_rfl
theorem IZ :aU Tryz.prog 52=true:=by kernel_rfl
theorem IY :aU Tryz.prog 54=true:=by kernel_rfl
theorem IX :aU Tryz.prog 56=true:=by kernel_rfl
theorem FN :aU Tryz.prog 58=true:=by kernel_rfl
theorem IW :aU Tryz.prog 59=true:=by kernel_rfl
theorem MF :aU Tryz.prog 6=true:=by kernel_rfl
theorem KV :aU Tryz.prog 60=true:=by kernel_rfl
theorem KU :aU Tryz.prog 61=true:=by kernel_rfl
theorem KT :aU Tryz.prog 62=true:=by kernel_rfl
theorem KS :aU Tryz.prog 65=true:=by kernel_rfl
theorem KR :aU Tryz.prog 66=true:=by kernel_rfl
theorem KQ :aU Tryz.prog 95=true:=by kernel_rfl
theorem KP :aU Tryz.prog 96=true:=by kernel_rfl
theorem IV :aU Tryz.prog 97=true:=by kernel_rfl
theorem Mx :eO Tryz.prog 180 5 1 1:=mQ (by kernel_rfl)
theorem IU :eO Tryz.prog 22 9 1 16:=mQ (by kernel_rfl)
theorem KN :eO Tryz.prog 23 3 1 8:=mQ (by kernel_rfl)
theorem Jp :oL Tryz.prog 25=some [(0,1),(1,1),(2,1),(3,1),(4,1),(5,1),(6,1),(7,1),(8,1)]:=by kernel_rfl
theorem Mq :dZ Tryz.prog 180=some (false,1):=by kernel_rfl
theorem Ml :dZ Tryz.prog 209=some (false,1):=by kernel_rfl
theorem KM :dZ Tryz.prog 3=some (false,1):=by kernel_rfl
theorem Jo :dZ Tryz.prog 332=some (true,2):=by kernel_rfl
theorem Fy :Tryz.prog.underlying 180=some (.slice 5):=by kernel_rfl
theorem KJ :Tryz.prog.underlying 22=some (.slice 9):=by kernel_rfl
theorem KI :Tryz.prog.underlying 3=some (.int .i64):=by kernel_rfl
theorem Jm :Tryz.prog.underlying 333=some (.array 3 332):=by kernel_rfl
theorem Jl :Tryz.prog.underlying 4=some (.bool):=by kernel_rfl
theorem Hr :Tryz.prog.underlying 5=some (.int .u8):=by kernel_rfl
theorem bC :Tryz.prog.underlying 9=some (.string):=by kernel_rfl
theorem Mk :Tryz.prog.underlying 209=some (.pointer 211):=by kernel_rfl
theorem Mj :Tryz.prog.underlying 316=some (.pointer 5):=by kernel_rfl
theorem Mi :Tryz.prog.underlying 358=some .unsafePointer:=by kernel_rfl
theorem Mh :(Tryz.prog.info? 4).map (·.zero)=some (some (.bool false)):=by kernel_rfl
theorem vk :iL Tryz.prog 185=some [.int .i64 0,.str [],.int .i64 0]:=by kernel_rfl
theorem zk :iL Tryz.prog 190=some [.int .i64 0,.str [],.int .i64 0]:=by kernel_rfl
theorem Fu :iL Tryz.prog 25=some [.str [],.own (.slice none 0 0) [],.int .i64 0,.int .i64 0,.bool false,.int .i64 0,.int .i64 0,.int .i64 0,.own (.slice none 0 0) []]:=by kernel_rfl
theorem DI :iL Tryz.prog 29=some [.str [],.own (.slice none 0 0) [],.int .i64 0,.int .i64 0,.bool false,.int .i64 0,.int .i64 0,.int .i64 0,.own (.slice none 0 0) [],.bool false,.bool false,.int .i64 0,.int .i64 0,.int .i64 0,.own (.slice none 0 0) []]:=by kernel_rfl
theorem Ji :iL Tryz.prog 332=some [.str [],.int .i64 0]:=by kernel_rfl
theorem Fq :iL Tryz.prog 333=some [.str [],.int .i64 0,.str [],.int .i64 0,.str [],.int .i64 0]:=by kernel_rfl
def FX :Facts:={ti:=[(3,false,1),(4,false,1),(5,false,1),(9,false,1),(22,false,1),(23,false,1),(25,true,9),(27,false,1),(48,true,3),(51,true,5),(57,true,8),(58,false,1),(59,false,1),(61,true,6),(68,true,7),(75,false,1),(83,false,1),(84,false,1),(85,false,1),(87,true,55),(101,true,9),(103,true,68),(161,true,3),(164,true,2),(203,true,3)],fo:=[(25,0,0),(25,1,1),(25,2,2),(25,3,3),(25,4,4),(25,5,5),(25,6,6),(25,7,7),(25,8,8),(29,0,0),(29,1,9),(29,2,10),(29,3,11),(29,4,12),(29,5,13),(29,6,14),(51,0,0),(51,1,1),(51,2,2),(51,3,3),(51,4,4),(61,0,0),(61,1,1),(61,2,2),(61,3,3),(61,4,4),(61,5,5),(82,0,0),(82,4,13),(87,0,0),(87,1,7),(87,2,46),(87,3,49),(87,4,50),(87,5,51),(87,6,52),(87,7,53),(87,8,54),(101,0,0),(101,1,6),(101,2,7),(101,3,8),(103,0,0),(103,1,55),(103,2,56),(103,3,57),(103,4,66),(103,5,67),(185,0,0),(185,1,1),(190,0,0),(332,0,0),(332,1,1)],fd:=[(190,0,0,false,1),(190,1,1,false,1)],str:=[]}
theorem aQ :FX.okB Tryz.prog=true:=by kernel_rfl
theorem cs {n:Nat} {all:Array Oper} {σ:List aA} {ds:List Deferred} {Q:Post} (k:Nat) {l l':List Oper} {env env':Env} (h:uK FX all n k l env=some (env',l')) (hr:AR Tryz.prog n all l' env' σ ds Q):AR Tryz.prog n all l env σ ds Q:=AR.cs aQ k h hr
def FY :FB:=⟨{FX with ti:=FX.ti ++ [(3,false,1),(9,false,1),(25,true,9),(29,true,15),(185,true,3),(190,true,3),(332,true,2),(333,true,6)]},[(25,[.str [],.own (.slice none 0 0) [],.int .i64 0,.int .i64 0,.bool false,.int .i64 0,.int .i64 0,.int .i64 0,.own (.slice none 0 0) []]),(29,[.str [],.own (.slice none 0 0) [],.int .i64 0,.int .i64 0,.bool false,.int .i64 0,.int .i64 0,.int .i64 0,.own (.slice none 0 0) [],.bool false,.bool false,.int .i64 0,.int .i64 0,.int .i64 0,.own (.slice none 0 0) []]),(185,[.int .i64 0,.str [],.int .i64 0]),(190,[.int .i64 0,.str [],.int .i64 0]),(332,[.str [],.int .i64 0])],[(25,[(0,1),(1,1),(2,1),(3,1),(4,1),(5,1),(6,1),(7,1),(8,1)]),(29,[(0,9),(9,1),(10,1),(11,1),(12,1),(13,1),(14,1)]),(185,[(0,1),(1,1),(2,1)]),(190,[(0,1),(1,1),(2,1)]),(332,[(0,1),(1,1)])]⟩
instance : FK Tryz.prog:=⟨FY,⟨by kernel_rfl,by kernel_rfl,by kernel_rfl⟩,[6,7,8,9,22,23,24,25,26,52,53,55,56,57,58,86,91,98,99,100,101,103,133,134,135,137,138,139,140,183,184,185,188,189,190,224,225,226,227,228,229,230,231,272,276],by kernel_rfl⟩
variable {τ : List aA} {Q : nH → List aA → Prop}
abbrev PC :=AC Tryz.prog
@[reducible] def iP (x:Int):PV:=.int .i64 x
@[reducible] def sP (x:List Str):PV:=.list (List.map aO x)
@[reducible] def pP (b:Nat):PV:=.val (.pointer (some ⟨b,0,none⟩))
@[reducible] def fE (x:av):List PV:=[.str x.iD,.list (List.map aO x.labels),.int .i64 x.trust,.int .i64 x.slots,.bool x.bq,.int .i64 x.phase,.int .i64 x.jv,.int .i64 x.dw,.list (List.map jr x.tokens)]
@[reducible] def qb (x:aX):List PV:=[.str x.worker.iD,.list (List.map aO x.worker.labels),.int .i64 x.worker.trust,.int .i64 x.worker.slots,.bool x.worker.bq,.int .i64 x.worker.phase,.int .i64 x.worker.jv,.int .i64 x.worker.dw,.list (List.map jr x.worker.tokens),.bool x.up,.bool x.joined,.int .i64 x.jv,.int .i64 x.heard,.int .i64 x.dw,.list (List.map aV.cells x.tasks)]
@[reducible] def JL (x:bf):List PV:=[.str x.run,.str x.job]
@[reducible] def JK (x:aM):List PV:=[.str x.project,.str x.ref,.bool x.fork]
@[reducible] def wE (x:aF):List PV:=[.str x.name,.str x.text,.int .i64 x.level,.list (List.map aO x.refs),.list (List.map aO x.environments)]
@[reducible] def Kn (x:bU):List PV:=[.str x.project,.int .i64 x.trust,.str x.ref]
@[reducible] def Kr (x:aC):List PV:=[.str x.scope.project,.int .i64 x.scope.trust,.str x.scope.ref,.str x.key,.int .u64 (x.digest.toNat:Int),.int .i64 x.size,.int .i64 x.created,.int .i64 x.used]
@[reducible] def wF (x:aS):List PV:=[.int .i64 x.status,.int .i64 x.eD,.list (List.map ah.cells x.inputs),.list (List.map ah.cells x.outputs),.list (List.map ak.cells x.tests),.str x.child]
@[reducible] def Kq (x:bE):List PV:=[.int .i64 x.token,.str x.ref.run,.str x.ref.job,.int .i64 x.attempt,.str x.worker,.int .i64 x.granted,.int .i64 x.expires]
@[reducible] def Km (x:aD):List PV:=[.int .i64 x.kind,.bool x.jN,.int .i64 x.ng,.str x.mP,.list (aD.bS x.jk),.list (List.map aO x.keys)]
@[reducible] def K3 (x:aL):List PV:=[.int .i64 x.kind,.str x.name,.int .i64 x.value.kind,.bool x.value.jN,.int .i64 x.value.ng,.str x.value.mP,.list (aD.bS x.value.jk),.list (List.map aO x.value.keys),.list (aL.bS x.args),.list (List.map aO x.keys)]
@[reducible] def Ko (x:bV):List PV:=[.int .i64 x.max,.list (List.map jr x.classes),.int .i64 x.base,.int .i64 x.cap]
@[reducible] def Ia (x:aZ):List PV:=[.int .i64 x.dJ,.list (List.map aO x.dI),.int .i64 x.iw]
@[reducible] def L9 (x:eF):List PV:=[.str x.iD,.list (List.map aO x.needs),.int .i64 x.when.kind,.str x.when.name,.int .i64 x.when.value.kind,.bool x.when.value.jN,.int .i64 x.when.value.ng,.str x.when.value.mP,.list (aD.bS x.when.value.jk),.list (List.map aO x.when.value.keys),.list (aL.bS x.when.args),.list (List.map aO x.when.keys),.list (List.map bK.cells x.vars),.list (List.map bI.cells x.steps),.list (List.map aO x.labels),.str x.group,.int .i64 x.policy,.int .i64 x.priority,.int .i64 x.cost,.int .i64 x.timeout,.int .i64 x.retry.max,.list (List.map jr x.retry.classes),.int .i64 x.retry.base,.int .i64 x.retry.cap,.list (List.map aO x.inputs),.list (List.map aO x.uses),.list (List.map aO x.outputs),.list (List.map aJ.cells x.caches),.list (List.map aO x.bL),.str x.environment,.bool x.jY,.int .i64 x.gate.dJ,.list (List.map aO x.gate.dI),.int .i64 x.gate.iw,.list (List.map aO x.tests),.int .i64 x.l5,.int .i64 x.jA,.bool x.gI,.bool x.child]
@[reducible] def pz (x:aI):List PV:=[.int .i64 x.bQ.token,.str x.bQ.ref.run,.str x.bQ.ref.job,.int .i64 x.bQ.attempt,.str x.bQ.worker,.int .i64 x.bQ.granted,.int .i64 x.bQ.expires,.str x.job.iD,.list (List.map aO x.job.needs),.int .i64 x.job.when.kind,.str x.job.when.name,.int .i64 x.job.when.value.kind,.bool x.job.when.value.jN,.int .i64 x.job.when.value.ng,.str x.job.when.value.mP,.list (aD.bS x.job.when.value.jk),.list (List.map aO x.job.when.value.keys),.list (aL.bS x.job.when.args),.list (List.map aO x.job.when.keys),.list (List.map bK.cells x.job.vars),.list (List.map bI.cells x.job.steps),.list (List.map aO x.job.labels),.str x.job.group,.int .i64 x.job.policy,.int .i64 x.job.priority,.int .i64 x.job.cost,.int .i64 x.job.timeout,.int .i64 x.job.retry.max,.list (List.map jr x.job.retry.classes),.int .i64 x.job.retry.base,.int .i64 x.job.retry.cap,.list (List.map aO x.job.inputs),.list (List.map aO x.job.uses),.list (List.map aO x.job.outputs),.list (List.map aJ.cells x.job.caches),.list (List.map aO x.job.bL),.str x.job.environment,.bool x.job.jY,.int .i64 x.job.gate.dJ,.list (List.map aO x.job.gate.dI),.int .i64 x.job.gate.iw,.list (List.map aO x.job.tests),.int .i64 x.job.l5,.int .i64 x.job.jA,.bool x.job.gI,.bool x.job.child,.str x.origin.project,.str x.origin.ref,.bool x.origin.fork,.list (List.map aF.cells x.bL),.list (List.map ah.cells x.artifacts),.list (List.map aC.cells x.entries),.list (List.map aO x.tests),.list (List.map aH.cells x.times),.list (List.map aO x.ignored)]
@[reducible] def wG (x:bB):List PV:=[.int .i64 x.result.status,.int .i64 x.result.eD,.list (List.map ah.cells x.result.inputs),.list (List.map ah.cells x.result.outputs),.list (List.map ak.cells x.result.tests),.str x.result.child,.str x.log,.int .i64 x.time,.list (List.map aC.cells x.saves)]
@[reducible] def BX (x:aV):List PV:=[.int .i64 x.work.bQ.token,.str x.work.bQ.ref.run,.str x.work.bQ.ref.job,.int .i64 x.work.bQ.attempt,.str x.work.bQ.worker,.int .i64 x.work.bQ.granted,.int .i64 x.work.bQ.expires,.str x.work.job.iD,.list (List.map aO x.work.job.needs),.int .i64 x.work.job.when.kind,.str x.work.job.when.name,.int .i64 x.work.job.when.value.kind,.bool x.work.job.when.value.jN,.int .i64 x.work.job.when.value.ng,.str x.work.job.when.value.mP,.list (aD.bS x.work.job.when.value.jk),.list (List.map aO x.work.job.when.value.keys),.list (aL.bS x.work.job.when.args),.list (List.map aO x.work.job.when.keys),.list (List.map bK.cells x.work.job.vars),.list (List.map bI.cells x.work.job.steps),.list (List.map aO x.work.job.labels),.str x.work.job.group,.int .i64 x.work.job.policy,.int .i64 x.work.job.priority,.int .i64 x.work.job.cost,.int .i64 x.work.job.timeout,.int .i64 x.work.job.retry.max,.list (List.map jr x.work.job.retry.classes),.int .i64 x.work.job.retry.base,.int .i64 x.work.job.retry.cap,.list (List.map aO x.work.job.inputs),.list (List.map aO x.work.job.uses),.list (List.map aO x.work.job.outputs),.list (List.map aJ.cells x.work.job.caches),.list (List.map aO x.work.job.bL),.str x.work.job.environment,.bool x.work.job.jY,.int .i64 x.work.job.gate.dJ,.list (List.map aO x.work.job.gate.dI),.int .i64 x.work.job.gate.iw,.list (List.map aO x.work.job.tests),.int .i64 x.work.job.l5,.int .i64 x.work.job.jA,.bool x.work.job.gI,.bool x.work.job.child,.str x.work.origin.project,.str x.work.origin.ref,.bool x.work.origin.fork,.list (List.map aF.cells x.work.bL),.list (List.map ah.cells x.work.artifacts),.list (List.map aC.cells x.work.entries),.list (List.map aO x.work.tests),.list (List.map aH.cells x.work.times),.list (List.map aO x.work.ignored),.int .i64 x.began,.int .i64 x.done,.int .i64 x.effect.result.status,.int .i64 x.effect.result.eD,.list (List.map ah.cells x.effect.result.inputs),.list (List.map ah.cells x.effect.result.outputs),.list (List.map ak.cells x.effect.result.tests),.str x.effect.result.child,.str x.effect.log,.int .i64 x.effect.time,.list (List.map aC.cells x.effect.saves),.int .i64 x.sent,.int .i64 x.saved]
@[reducible] def Hg (x:aJ):List PV:=[.str x.key,.list (List.map aO x.restore),.list (List.map aO x.files)]
@[reducible] def JJ (x:ah):List PV:=[.str x.name,.int .u64 (x.digest.toNat:Int),.int .i64 x.size]
@[reducible] def JI (x:aH):List PV:=[.str x.name,.int .i64 x.time]
@[reducible] def KZ (x:bI):List PV:=[.int .i64 x.op,.str x.name,.str x.text,.int .i64 x.n]
@[reducible] def Gm (x:ak):List PV:=[.str x.name,.int .i64 x.status,.int .i64 x.time]
@[reducible] def L8 (x:bK):List PV:=[.str x.name,.int .i64 x.value.kind,.bool x.value.jN,.int .i64 x.value.ng,.str x.value.mP,.list (aD.bS x.value.jk),.list (List.map aO x.value.keys)]
@[reducible] def ML (x:iA):List PV:=[.str x.text,.int .i64 x.form]
theorem uz {r0:Bool} (hf:qc=some r0) (h:Q (.ret (.bool r0)) τ):PC 6 [] τ Q:=by
 cases hf; exact Dk mixed (f:=20000) (by kernel_rfl) h
theorem jV (s1:List Str) {r0:List Str} (hf:dD s1=some r0) (h:Q (.ret (sP r0)) τ):PC 21 [sP s1] τ Q:=by
 unfold dD at hf; refine BN 8 [.tmp 2] [0] Tryz.func21 Z Z Z Z Z (W 0 Z (AS Z (AO.BO Z Z (U 1 Z (AS Z (AO.zP Z Z KJ (fun b hb=>(J 0 Z (AW.cond Z (fun h1=>?_) (fun h1=>?_))))))))))
 · obtain rfl:s1=[]:=List.map_eq_nil_iff.1 (hb h1); obtain ⟨_,rfl⟩:=sw hf; refine W 0 Z (AS Z (AO.BO Z Z ?_)); exact N 0 rfl ⟨rfl,_,⟨_,_,rfl,rfl,rfl⟩,_,List.Sublist.refl _,h⟩
 refine W 0 Z (AS Z (AO.uV [] Z IU Z Z Z Z Z (fun v1=>(U 1 Z (AS Z (AO.IL (i:=0) (l:=[]) (m:=s1) hf Z Z Z Z Z Z Z IU gP Z Z Z (fun _=>Z) (fun _=>Z) (by decide) (fun v2 s2 hs2=>?_))))))); cases hs2; exact N 1 Z (Y Z h)
theorem q8 (l1:List UInt8) (Cc:Int→UInt8→Option Bool) (D9:FuncId) (Gq:List PV) (Ld:aU Tryz.prog D9=true) (Lf:∀ a0 a1 b0,Cc a0 a1=some b0→∀ {τ:List aA} {Q:nH→List aA→Prop},Q (.ret (.bool b0)) τ→PC D9 ([iP a0,.int .u8 (a1.toNat:Int)] ++ Gq) τ Q) {r0:Bool} (hf:iJ l1 Cc=some r0) (h:Q (.ret (.bool r0)) τ):PC 95 [.list (List.map eU l1),.fn D9 Gq] τ Q:=by
 unfold iJ at hf; refine BN 20 [.tmp 4] [0,1] Tryz.func95 Z Z Z Z Z (W 2 Z (AS Z (AO.aR (l:=l1) Z Z Z Z zO Z Z (J 1 Z (xM (fun i1=>[(1,.fn D9 Gq),(7,.list (List.map eU l1)),(8,iP (l1.length:Int)),(9,iP i1)]) (fun i1=>[]) (fun dh i1=>cB l1 Cc dh i1=some r0) BIG 0 Z Z hf (fun _ hz=>bY hz) ?_))))); intro dh i1 hf; rw [cB] at hf; refine V 1 Z (C hf Z (fun h1 hf=>?_) fun h1 hf=>?_)
 ·
  refine B1 hf fun e1 h2 hf=>W 1 Z (AS Z (AO.bn h2 Z Z Z Z zO Z Z ?_)); refine B1 hf fun x1 h3 hf=>U 6 Z (AS Z (AO.call Z _ Z Z Ld (Lf _ _ _ h3 (J 1 Z (C hf Z (fun h4 hf=>?_) fun h4 hf=>?_)))))
  · cases hf; exact M 1 Z (Y Z h)
  exact M 2 Z ⟨(fJ (i1 + 1)),Z,Z,Z,hf⟩
 cases hf; exact M 1 Z (Y Z h)
theorem qH (c1:UInt8) {r0:Bool} (hf:kr c1=some r0) (h:Q (.ret (.bool r0)) τ):PC 97 [.int .u8 (c1.toNat:Int)] τ Q:=by
 unfold kr at hf; refine BN 9 [.tmp 2] [0] Tryz.func97 Z Z Z Z Z (W 4 Z (An 3 5 8 [] (decide ((c1.toNat:Int)≤57)) Z Z Z Z ?_)); cases hf; exact N 1 Z (Y Z h)
theorem xC (i1:Int) (c1:UInt8) {r0:Bool} (hf:f_ i1 c1=some r0) (h:Q (.ret (.bool r0)) τ):PC 96 [iP i1,.int .u8 (c1.toNat:Int)] τ Q:=by
 unfold f_ at hf; refine BN 31 [.tmp 4] [0,1] Tryz.func96 Z Z Z Z Z (W 4 Z (An 3 7 10 [0,1] (decide ((c1.toNat:Int)≤122)) Z Z Z Z ?_)); refine B1 hf fun b1 h3 hf=>U 1 Z (AR.bH 3 11 14 false [0,1] b1 Z Z (fun h2=>?_) (fun h2=>?_) ?_)
 · refine IF 11 h2 h3 Z fun h3=>?_; refine BR h3 fun x1 h4 h3=>?_; refine U 1 Z (GO Z (AO.call Z _ Z Z IV (qH _ h4 ?_))); cases h3; exact bW 1 Z (En [14,0,1] Z)
 · refine IT 11 h2 h3 Z fun h3=>?_; cases h3; exact bW 3 Z (En [14,0,1] Z)
 refine U 1 Z (AR.or 15 15 30 [] (x:=((decide (0 < i1)) && ((((c1.toNat:Int) == 95) || ((c1.toNat:Int) == 45)) || ((c1.toNat:Int) == 46)))) Z Z (fun h5=>?_) (fun h5=>?_) ?_)
 ·
  refine Is 15 h5 Z (U 3 Z (AR.and 11 18 29 [15] (x:=((((c1.toNat:Int) == 95) || ((c1.toNat:Int) == 45)) || ((c1.toNat:Int) == 46))) Z Z (fun h6=>?_) (fun h6=>?_) ?_))
  · refine Is 18 h6 Z (U 3 Z (On 3 21 24 [1,15,18] ((c1.toNat:Int) == 45) Z Z Z Z (U 1 Z (On 3 25 28 [15,18] ((c1.toNat:Int) == 46) Z Z Z Z ?_)))); exact bW 1 Z (En [29,15] Z)
  · refine Is 18 h6 Z ?_; exact bW 11 Z (En [29,15] Z)
  exact bW 1 Z (En [30] Z)
 · refine Is 15 h5 Z ?_; exact bW 15 Z (En [30] Z)
 cases hf; exact N 1 Z (Y Z h)
theorem kS (s1:Str) {r0:Bool} (hf:gq s1=some r0) (h:Q (.ret (.bool r0)) τ):PC 52 [.str s1] τ Q:=by
 unfold gq at hf; refine BN 16 [.tmp 2] [0] Tryz.func52 Z Z Z Z Z (W 2 Z (AS Z (AO.aY Z Z Z Z bC Z (U 2 Z (AR.and 4 6 10 [0] (x:=(decide ((s1.length:Int)≤64))) Z Z (fun h1=>?_) (fun h1=>?_) ?_)))))
 · refine Is 6 h1 Z (U 1 Z (GO Z (AO.aY Z Z Z Z bC Z ?_))); exact bW 2 Z (En [10,0] Z)
 · refine Is 6 h1 Z ?_; exact bW 4 Z (En [10,0] Z)
 refine BR hf fun b1 h3 hf=>?_; refine U 1 Z (AR.bH 4 11 15 true [] b1 Z Z (fun h2=>?_) (fun h2=>?_) ?_)
 · refine IT 11 h2 h3 Z fun h3=>?_; refine B1 h3 fun x1 h4 h3=>U 1 Z (GO Z (AO.vG h4 Z bC Fy Hr Z (fun v1=>?_))); refine BR h3 fun x2 h5 h3=>?_; refine GO Z (AO.call Z _ Z Z KQ (q8 _ f_ 96 [] KP (fun _ _ _ hz=>xC _ _  hz) h5 ?_)); cases h3; refine bW 1 Z (AR.drop1 ?_); exact En [15] Z
 · refine IF 11 h2 h3 Z fun h3=>?_; cases h3; exact bW 4 Z (En [15] Z)
 cases hf; exact N 1 Z (Y Z h)
theorem lX (s1:Str) (fq:Str) {r0:Bool} (hf:dG s1 fq=some r0) (h:Q (.ret (.bool r0)) τ):PC 134 [.str s1,.str fq] τ Q:=by
 unfold dG at hf; refine BN 18 [.tmp 4] [0,1] Tryz.func134 Z Z Z Z Z (W 2 Z (AS Z (AO.aY Z Z Z Z bC Z (U 1 Z (AS Z (AO.aY Z Z Z Z bC Z ?_)))))); refine BR hf fun b1 h2 hf=>?_; refine U 2 Z (AR.bH 7 10 17 true [] b1 Z Z (fun h1=>?_) (fun h1=>?_) ?_)
 · replace h2:=wL h1 h2; refine Is 10 h1 Z (U 2 Z (GO Z (AO.aY Z Z Z Z bC Z ?_))); refine B1 h2 fun x1 h3 h2=>GO Z (AO.fC h3 Z bC Z Z ⟨_,Z⟩ ?_); cases h2; exact bW 3 Z (En [17] Z)
 · refine IF 10 h1 h2 Z fun h2=>?_; cases h2; exact bW 7 Z (En [17] Z)
 cases hf; exact N 1 Z (Y Z h)
theorem lY (s1:Str) (fq:Str) {r0:Str} {r1:Bool} (hf:dH s1 fq=some (r0,r1)) (h:Q (.ret (.tuple [.str r0,.bool r1])) τ):PC 224 [.str s1,.str fq] τ Q:=by
 unfold dH at hf; refine BN 15 [.tmp 4,.tmp 5] [0,1] Tryz.func224 Z Z Z Z Z ?_; refine B1 hf fun x1 h1 hf=>W 4 Z (CL Z (lX _ _ h1 (J 1 Z (C hf Z (fun h2 hf=>?_) fun h2 hf=>?_))))
 · cases hf; exact M 3 Z (Y Z h)
 refine W 2 Z (AS Z (AO.aY Z Z Z Z bC Z ?_)); refine B1 hf fun DC h3 hf=>AS Z (AO.fC h3 Z bC Z ⟨_,Z⟩ Z ?_); cases hf; exact N 2 Z (Y Z h)
theorem qA (s1:Str) (fq:Str) {r0:Str} {r1:Bool} (hf:strings_CutPrefix s1 fq=some (r0,r1)) (h:Q (.ret (.tuple [.str r0,.bool r1])) τ):PC 183 [.str s1,.str fq] τ Q:=by
 unfold strings_CutPrefix at hf; refine BN 11 [.tmp 4,.tmp 5] [0,1] Tryz.func183 Z Z Z Z Z ?_; replace hf:=(Fb _).trans hf; obtain ⟨DC,mJ,h1,hf⟩:=jo hf; refine W 4 Z (CL Z (lY _ _ h1 ?_)); cases hf; exact N 4 Z (Y Z h)
theorem yh (h:Q (.ret (.agg (List.flatMap iA.cells jl))) τ):PC 225 [] τ Q:=by
 refine BN 5 [.cell 0 333] [] Tryz.func225 Z Z Z Z Z (W 0 Z (AS Z (AO.dn Z Fq (fun b0=>(U 3 Z (AS Z (AO.E9 Z Fq Kj Z ?_))))))); exact Rx 1 [0] Z Z (ZC [0] Z Z h)
section
variable [Hf]
def Gy :Go.Shelf.Ren:=⟨fun | 145=>226 | 220=>271 | 219=>309 | 217=>347 | 225=>348 | 224=>349 | 267=>350 | 266=>381 | 314=>382 | n=>n,fun | 9=>9 | 4=>4 | 59=>335 | 3=>3 | 5=>5 | 46=>206 | 146=>457 | 51=>253 | n=>n,fun | 1=>0 | n=>n⟩
theorem Nc :Go.Proofs.Lays.n145 Tryz.prog Gy:=by repeat' first | (intros; kernel_rfl) | constructor | decide
theorem xX (s1:Str) (t1:Str) {r0:Str} {r1:Str} {r2:Bool} (hf:strings_Cut s1 t1=some (r0,r1,r2)) (h:Q (.ret (.tuple [.str r0,.str r1,.bool r2])) τ):PC 226 [.str s1,.str t1] τ Q:=by
 unfold strings_Cut at hf; split at hf
 case isFalse=>cases hf
 rename_i hg; injection hf with hf; change EP s1 t1=_ at hf; refine AC.none ?_; exact AC.cut Hf.hD Nc hg Hf.max (by rw [hf]; exact h)
end
theorem xB (s1:Str) {r0:Int} {r1:Bool} (hf:iI s1=some (r0,r1)) (h:Q (.ret (.tuple [iP r0,.bool r1])) τ):PC 227 [.str s1] τ Q:=by
 unfold iI at hf; refine BN 47 [.tmp 2,.tmp 3] [0] Tryz.func227 Z Z Z Z Z (W 5 Z (AR.or 4 9 13 [0] (x:=(decide (16 < (s1.length:Int)))) Z Z (fun h1=>?_) (fun h1=>?_) ?_))
 · refine Is 9 h1 Z (U 1 Z (GO Z (AO.aY Z Z Z Z bC Z ?_))); exact bW 2 Z (En [13,0] Z)
 · refine Is 9 h1 Z ?_; exact bW 4 Z (En [13,0] Z)
 refine B1 hf fun b1 h3 hf=>U 1 Z (AR.bH 9 14 23 false [0] b1 Z Z (fun h2=>?_) (fun h2=>?_) ?_)
 ·
  replace h3:=uj h2 h3; refine Is 14 h2 Z (U 1 Z (GO Z (AO.aY Z Z Z Z bC Z ?_))); refine BR h3 fun b2 h5 h3=>?_; refine U 2 Z (AR.bH 4 18 22 true [0,14] b2 Z Z (fun h4=>?_) (fun h4=>?_) ?_)
  · refine IT 18 h4 h5 Z fun h5=>?_; refine B1 h5 fun x1 h6 h5=>U 1 Z (GO Z (AO.bP h6 Z bC Z Z ?_)); cases h5; exact bW 2 Z (En [22,0,14] Z)
  · refine IF 18 h4 h5 Z fun h5=>?_; cases h5; exact bW 4 Z (En [22,0,14] Z)
  cases h3; exact bW 1 Z (En [23,0] Z)
 · refine IT 14 h2 h3 Z fun h3=>?_; cases h3; exact bW 9 Z (En [23,0] Z)
 refine J 0 Z (C hf Z (fun h7 hf=>?_) fun h7 hf=>?_)
 · cases hf; exact M 2 Z (Y Z h)
 refine B1 hf fun x2 h8 hf=>W 2 Z (AS Z (AO.vG h8 Z bC Fy Hr Z (fun v1=>(AS Z (AO.aR (l:=x2) Z Z Z Z zO Z Z (J 1 Z (LU (fun n1 x3=>[(4,iP n1),(25,.own v1 (List.map eU x2)),(26,iP (x2.length:Int)),(27,iP x3)]) (fun n1 x3=>[.row v1 (List.map eU x2).length 1 5]) (fun dh n1 x3=>dX x2 dh n1 x3=some (r0,r1)) BIG 0 0 Z Z hf (fun _ _ hz=>bY hz) ?_))))))); intro dh n1 x3 hf; rw [dX] at hf; refine V 1 Z (C hf Z (fun h9 hf=>?_) fun h9 hf=>?_)
 ·
  refine B1 hf fun c1 h10 hf=>W 0 Z (AS Z (AO.bn h10 Z Z Z Z zO Z Z (U 5 Z (On 3 33 36 [4,6,25,26,27] (decide (57 < (c1.toNat:Int))) Z Z Z Z (J 0 Z (C hf Z (fun h12 hf=>?_) fun h12 hf=>?_))))))
  · cases hf; exact M 2 Z (Y Z h)
  refine W 3 Z (AS Z (AO.Fz c1 48 Z Z Z Z Z (AS Z (AO.yX Z Hr KI Z Z ?_)))); exact N 4 Z ⟨(fJ ((fJ (10 * n1)) + ((c1 - 48).toNat:Int))),(fJ (x3 + 1)),Z,Z,Z,hf⟩
 cases hf; exact M 5 Z (Y Z h)
section
variable [Hf]
theorem tX (s1:Str) {r0:aP} {r1:Bool} (hf:gZ s1=some (r0,r1)) (h:Q (.ret (.tuple [.agg [iP r0.form,.str r0.name,iP r0.n],.bool r1])) τ):PC 184 [.str s1] τ Q:=by
 unfold gZ at hf; refine BN 45 [.cell 2 185,.tmp 3] [0] Tryz.func184 Z Z Z Z Z (W 0 Z (AS Z (AO.dn Z vk (fun b2=>(U 1 Z (CL Z (yh (J 1 Z (xM (fun x1=>[(0,.str s1),(2,pP b2),(11,.agg (List.flatMap iA.cells jl)),(12,iP x1)]) (fun x1=>[.box b2 [iP 0,.str ([]:Str),iP 0]]) (fun dh x1=>cO s1 dh x1=some (r0,r1)) BIG 0 Z Z hf (fun _ hz=>bY hz) ?_))))))))); intro dh x1 hf; rw [cO] at hf; refine V 1 Z (C hf Z (fun h1 hf=>?_) fun h1 hf=>?_)
 ·
  refine B1 hf fun x2 h2 hf=>W 0 Z (AS Z (AO.Df iA.cells h2 Z Jm Jo Z Z Z iA.bF (AS Z (AO.dn Z Ji (fun b5=>?_))))); obtain ⟨name1,iR,mJ,h3,hf⟩:=za hf; refine Rr 4 [0,0] Z Z (CL Z (xX _ _ h3 (J 9 Z (C hf Z (fun h4 hf=>?_) fun h4 hf=>?_))))
  · refine N7 2 Z (AR.drop1 ?_); exact N 0 Z ⟨(fJ (x1 + 1)),Z,Z,Z,hf⟩
  obtain ⟨n1,ok1,h5,hf⟩:=jo hf; refine W 1 Z (CL Z (xB _ h5 ?_)); refine B1 hf fun b1 h7 hf=>U 8 Z (AR.bH 4 32 36 false [2,5,6,9] b1 Z Z (fun h6=>?_) (fun h6=>?_) ?_)
  · refine IF 32 h6 h7 Z fun h7=>?_; refine B1 h7 fun x3 h8 h7=>U 1 Z (GO Z (AO.call Z _ Z Z IZ (kS _ h8 ?_))); cases h7; exact bW 2 Z (En [36,2,5,6,9] Z)
  · refine IT 32 h6 h7 Z fun h7=>?_; cases h7; exact bW 4 Z (En [36,2,5,6,9] Z)
  refine J 0 Z (C hf Z (fun h9 hf=>?_) fun h9 hf=>?_)
  · cases hf; exact Wx 3 [1] Z Z (ZC [1] Z Z h)
  cases hf; exact Wx 7 [0,1] Z Z (ZC [1] Z Z h)
 cases hf; exact Wx 3 [0] Z Z (ZC [0] Z Z h)
end
section
variable [Hf]
theorem yj (s1:Str) {r0:aP} (hf:ko s1=some r0) (h:Q (.ret (.agg [iP r0.form,.str r0.name,iP r0.n])) τ):PC 135 [.str s1] τ Q:=by
 unfold ko at hf; refine BN 29 [.cell 2 185] [0] Tryz.func135 Z Z Z Z Z (W 0 Z (AS Z (AO.dn Z vk (fun b2=>?_)))); refine B1 hf fun x1 h1 hf=>U 1 Z (CL Z (kS _ h1 (J 0 Z (C hf Z (fun h2 hf=>?_) fun h2 hf=>?_))))
 · cases hf; exact Wx 3 [0] Z Z (ZC [0] Z Z h)
 obtain ⟨name1,mJ,h3,hf⟩:=jo hf; refine W 1 Z (CL Z (qA _ _ h3 ?_)); refine B1 hf fun b1 h5 hf=>U 7 Z (AR.bH 3 17 20 true [0,2,3] b1 Z Z (fun h4=>?_) (fun h4=>?_) ?_)
 · refine IT 17 h4 h5 Z fun h5=>?_; refine BR h5 fun x2 h6 h5=>?_; refine U 1 Z (GO Z (AO.call Z _ Z Z IZ (kS _ h6 ?_))); cases h5; exact bW 1 Z (En [20,0,2,3] Z)
 · refine IF 17 h4 h5 Z fun h5=>?_; cases h5; exact bW 3 Z (En [20,0,2,3] Z)
 refine J 0 Z (C hf Z (fun h7 hf=>?_) fun h7 hf=>?_)
 · cases hf; exact Wx 3 [0] Z Z (ZC [0] Z Z h)
 obtain ⟨x3,x4,h8,hf⟩:=jo hf; refine W 1 Z (CL Z (tX _ h8 (U 3 Z (AS Z (AO.dn Z vk (fun b5=>?_)))))); cases hf; exact Rx 4 [0,0,1] Z Z (ZC [1] Z Z h)
end
section
variable [Hf]
theorem uR (s1:Str) {r0:aP} {r1:Bool} {r2:Bool} (hf:fD s1=some (r0,r1,r2)) (h:Q (.ret (.tuple [.agg [iP r0.form,.str r0.name,iP r0.n],.bool r1,.bool r2])) τ):PC 98 [.str s1] τ Q:=by
 unfold fD at hf; refine BN 19 [.cell 2 185,.tmp 3,.tmp 4] [0] Tryz.func98 Z Z Z Z Z (W 0 Z (AS Z (AO.dn Z vk (fun b2=>?_)))); refine B1 hf fun x1 h1 hf=>U 3 Z (CL Z (yj _ h1 (Rr 9 [0,0,0,0] Z Z (AR.or 4 14 18 [2,7,10] (x:=(x1.form == 5)) Z Z (fun h2=>?_) (fun h2=>?_) ?_))))
 · refine Is 14 h2 Z (U 1 Z (GO Z (AO.rU (i:=0) Z Z Z KM Z Z ?_))); exact bW 2 Z (En [18,2,7,10] Z)
 · refine Is 14 h2 Z ?_; exact bW 4 Z (En [18,2,7,10] Z)
 cases hf; exact Rx 3 [0] Z Z (ZC [0] Z Z h)
end
theorem uD (s1:Str) {r0:Int} (hf:kX s1=some r0) (h:Q (.ret (iP r0)) τ):PC 185 [.str s1] τ Q:=by
 unfold kX at hf; refine BN 17 [.tmp 2] [0] Tryz.func185 Z Z Z Z Z (V 2 Z (xM (fun n1=>[(0,.str s1),(3,iP n1)]) (fun n1=>[]) (fun dh n1=>jF s1 dh n1=some r0) BIG 0 Z Z hf (fun _ hz=>bY hz) ?_)); intro dh n1 hf; rw [jF] at hf; refine W 2 Z (AS Z (AO.aY Z Z Z Z bC Z ?_)); refine B1 hf fun b1 h2 hf=>U 2 Z (AR.bH 5 8 13 true [0,3] b1 Z Z (fun h1=>?_) (fun h1=>?_) ?_)
 · refine IT 8 h1 h2 Z fun h2=>?_; refine B1 h2 fun x1 h3 h2=>U 2 Z (GO Z (AO.bP h3 Z bC Z Z ?_)); refine BR h2 fun x2 h4 h2=>?_; refine GO Z (AO.call Z _ Z Z IV (qH _ h4 ?_)); cases h2; exact bW 1 Z (En [13,0,3] Z)
 · refine IF 8 h1 h2 Z fun h2=>?_; cases h2; exact bW 5 Z (En [13,0,3] Z)
 refine J 0 Z (C hf Z (fun h5 hf=>?_) fun h5 hf=>?_)
 · exact M 3 Z ⟨(fJ (n1 + 1)),Z,Z,Z,hf⟩
 cases hf; exact M 2 Z (Y Z h)
theorem nT (s1:Str) (c1:UInt8) {r0:Str} (hf:strings_trimLeftByte s1 c1=some r0) (h:Q (.ret (.str r0)) τ):PC 272 [.str s1,.int .u8 (c1.toNat:Int)] τ Q:=by
 unfold strings_trimLeftByte at hf; refine BN 17 [.tmp 4] [0,1] Tryz.func272 Z Z Z Z Z (V 1 Z (xM (fun s2=>[(0,.str s2),(1,.int .u8 (c1.toNat:Int))]) (fun s2=>[]) (fun dh s2=>bN c1 dh s2=some r0) BIG s1 Z Z hf (fun _ hz=>bY hz) ?_)); intro dh s2 hf; rw [bN] at hf; refine W 1 Z (AS Z (AO.aY Z Z Z Z bC Z ?_)); refine B1 hf fun b1 h2 hf=>U 2 Z (AR.bH 5 8 13 true [0,1] b1 Z Z (fun h1=>?_) (fun h1=>?_) ?_)
 · refine IT 8 h1 h2 Z fun h2=>?_; refine B1 h2 fun x1 h3 h2=>U 1 Z (GO Z (AO.bP h3 Z bC Z Z ?_)); cases h2; exact bW 3 Z (En [13,0,1] Z)
 · refine IF 8 h1 h2 Z fun h2=>?_; cases h2; exact bW 5 Z (En [13,0,1] Z)
 refine J 0 Z (C hf Z (fun h4 hf=>?_) fun h4 hf=>?_)
 · refine B1 hf fun s3 h5 hf=>W 1 Z (AS Z (AO.fC h5 Z bC Z ⟨_,Z⟩ Z ?_)); exact N 1 Z ⟨s3,Z,Z,Z,hf⟩
 cases hf; exact M 2 Z (Y Z h)
theorem lQ (s1:Str) (mD:Str) {r0:Str} (hf:eH s1 mD=some r0) (h:Q (.ret (.str r0)) τ):PC 228 [.str s1,.str mD] τ Q:=by
 unfold eH at hf; refine BN 37 [.tmp 4] [0,1] Tryz.func228 Z Z Z Z Z (W 4 Z (On 3 9 12 [0,1] (mD == ([]:Str)) Z Z Z Z (J 0 Z (C hf Z (fun h2 hf=>?_) fun h2 hf=>?_))))
 · cases hf; exact M 2 Z (Y Z h)
 refine W 1 Z (AS Z (AO.aY Z Z Z Z bC Z ?_)); refine B1 hf fun b1 h4 hf=>U 2 Z (AR.bH 4 17 21 true [0,1] b1 Z Z (fun h3=>?_) (fun h3=>?_) ?_)
 · refine IT 17 h3 h4 Z fun h4=>?_; refine B1 h4 fun x1 h5 h4=>U 1 Z (GO Z (AO.bP h5 Z bC Z Z ?_)); cases h4; exact bW 2 Z (En [21,0,1] Z)
 · refine IF 17 h3 h4 Z fun h4=>?_; cases h4; exact bW 4 Z (En [21,0,1] Z)
 refine J 0 Z (C hf Z (fun h6 hf=>?_) fun h6 hf=>?_)
 · refine B1 hf fun x2 h7 hf=>W 2 Z (AS Z (AO.bP h7 Z bC Z Z ?_)); refine BR hf fun x3 h8 hf=>?_; refine CL Z (nT _ _ h8 ?_); cases hf; exact N 1 Z (Y Z h)
 exact bY hf
theorem oC (x1:Int) {r0:Bool} (hf:cmp_isNaN_int x1=some r0) (h:Q (.ret (.bool r0)) τ):PC 133 [iP x1] τ Q:=by
 unfold cmp_isNaN_int at hf; refine BN 6 [.tmp 2] [0] Tryz.func133 Z Z Z Z Z ?_; cases hf; exact M 5 Z (Y Z h)
theorem jK (x1:Int) (y1:Int) {r0:Int} (hf:cmp_Compare_int x1 y1=some r0) (h:Q (.ret (iP r0)) τ):PC 86 [iP x1,iP y1] τ Q:=by
 unfold cmp_Compare_int at hf; refine BN 20 [.tmp 4] [0,1] Tryz.func86 Z Z Z Z Z ?_; refine B1 hf fun tZ h1 hf=>W 2 Z (CL Z (oC _ h1 ?_)); refine B1 hf fun oH h2 hf=>U 2 Z (CL Z (oC _ h2 (J 2 Z (C hf Z (fun h3 hf=>?_) fun h3 hf=>?_))))
 ·
  refine V 1 Z (C hf Z (fun h4 hf=>?_) fun h4 hf=>?_)
  · cases hf; exact M 1 Z (Y Z h)
  cases hf; exact M 1 Z (Y Z h)
 refine V 1 Z (C hf Z (fun h5 hf=>?_) fun h5 hf=>?_)
 · cases hf; exact M 1 Z (Y Z h)
 refine V 3 Z (C hf Z (fun h6 hf=>?_) fun h6 hf=>?_)
 · cases hf; exact M 1 Z (Y Z h)
 refine V 3 Z (C hf Z (fun h7 hf=>?_) fun h7 hf=>?_)
 · cases hf; exact M 1 Z (Y Z h)
 cases hf; exact M 1 Z (Y Z h)
theorem lS (x1:Str) {r0:Bool} (hf:cmp_isNaN_string x1=some r0) (h:Q (.ret (.bool r0)) τ):PC 276 [.str x1] τ Q:=by
 unfold cmp_isNaN_string at hf; refine BN 6 [.tmp 2] [0] Tryz.func276 Z Z Z Z Z ?_; cases hf; exact M 5 Z (Y Z h)
theorem pK (x1:Str) (y1:Str) {r0:Int} (hf:eT x1 y1=some r0) (h:Q (.ret (iP r0)) τ):PC 229 [.str x1,.str y1] τ Q:=by
 unfold eT at hf; refine BN 20 [.tmp 4] [0,1] Tryz.func229 Z Z Z Z Z ?_; refine B1 hf fun tZ h1 hf=>W 2 Z (CL Z (lS _ h1 ?_)); refine B1 hf fun oH h2 hf=>U 2 Z (CL Z (lS _ h2 (J 2 Z (C hf Z (fun h3 hf=>?_) fun h3 hf=>?_))))
 ·
  refine V 1 Z (C hf Z (fun h4 hf=>?_) fun h4 hf=>?_)
  · cases hf; exact M 1 Z (Y Z h)
  cases hf; exact M 1 Z (Y Z h)
 refine V 1 Z (C hf Z (fun h5 hf=>?_) fun h5 hf=>?_)
 · cases hf; exact M 1 Z (Y Z h)
 refine V 3 Z (C hf Z (fun h6 hf=>?_) fun h6 hf=>?_)
 · cases hf; exact M 1 Z (Y Z h)
 refine V 3 Z (C hf Z (fun h7 hf=>?_) fun h7 hf=>?_)
 · cases hf; exact M 1 Z (Y Z h)
 cases hf; exact M 1 Z (Y Z h)
theorem zY (oh:List Int) {r0:Int} (hf:lN oh=some r0) (h:Q (.ret (iP r0)) τ):PC 91 [.list (List.map jr oh)] τ Q:=by
 unfold lN at hf; refine BN 18 [.tmp 2] [0] Tryz.func91 Z Z Z Z Z (W 3 Z (AS Z (AO.aR (l:=oh) Z Z Z Z kI Z Z (J 1 Z (xM (fun x1=>[(3,iP 0),(6,.list (List.map jr oh)),(7,iP (oh.length:Int)),(8,iP x1)]) (fun x1=>[]) (fun dh x1=>iV oh dh x1=some r0) BIG 0 Z Z hf (fun _ hz=>bY hz) ?_))))); intro dh x1 hf; rw [iV] at hf; refine V 1 Z (C hf Z (fun h1 hf=>?_) fun h1 hf=>?_)
 ·
  refine B1 hf fun Ep h2 hf=>W 0 Z (AS Z (AO.bn h2 Z Z Z Z kI Z Z (J 5 Z (C hf Z (fun h3 hf=>?_) fun h3 hf=>?_))))
  · cases hf; exact M 2 Z (Y Z h)
  exact M 2 Z ⟨(fJ (x1 + 1)),Z,Z,Z,hf⟩
 cases hf; exact M 2 Z (Y Z h)
theorem uT (a1:Str) (b1:Str) {r0:Int} (hf:iU a1 b1=some r0) (h:Q (.ret (iP r0)) τ):PC 186 [.str a1,.str b1] τ Q:=by
 unfold iU at hf; refine BN 26 [.tmp 4] [0,1] Tryz.func186 Z Z Z Z Z ?_; refine B1 hf fun x1 h1 hf=>W 2 Z (CL Z (lQ _ _ h1 ?_)); refine B1 hf fun y1 h2 hf=>U 1 Z (CL Z (lQ _ _ h2 (U 3 Z (AS Z (AO.aY Z Z Z Z bC Z (U 1 Z (AS Z (AO.aY Z Z Z Z bC Z ?_)))))))); refine B1 hf fun x2 h3 hf=>CL Z (jK _ _ h3 ?_); refine B1 hf fun x3 h4 hf=>U 2 Z (CL Z (pK _ _ h4 (U 1 Z (AS Z (AO.aY Z Z Z Z bC Z (U 1 Z (AS Z (AO.aY Z Z Z Z bC Z ?_)))))))); refine B1 hf fun x4 h5 hf=>CL Z (jK _ _ h5 (AS Z (AO.CG (List.map jr ([x2,x3,x4]:List Int)) Z KN Z Z Z Z ?_))); refine BR hf fun x5 h6 hf=>?_; refine CL Z (zY _ h6 ?_); cases hf; exact N 1 Z (Y Z h)
theorem nA (x1:UInt8) {r0:Bool} (hf:iy x1=some r0) (h:Q (.ret (.bool r0)) τ):PC 230 [.int .u8 (x1.toNat:Int)] τ Q:=by
 unfold iy at hf; refine BN 6 [.tmp 2] [0] Tryz.func230 Z Z Z Z Z ?_; cases hf; exact M 5 Z (Y Z h)
theorem q9 (x1:UInt8) (y1:UInt8) {r0:Int} (hf:fP x1 y1=some r0) (h:Q (.ret (iP r0)) τ):PC 187 [.int .u8 (x1.toNat:Int),.int .u8 (y1.toNat:Int)] τ Q:=by
 unfold fP at hf; refine BN 20 [.tmp 4] [0,1] Tryz.func187 Z Z Z Z Z ?_; refine B1 hf fun tZ h1 hf=>W 2 Z (CL Z (nA _ h1 ?_)); refine B1 hf fun oH h2 hf=>U 2 Z (CL Z (nA _ h2 (J 2 Z (C hf Z (fun h3 hf=>?_) fun h3 hf=>?_))))
 ·
  refine V 1 Z (C hf Z (fun h4 hf=>?_) fun h4 hf=>?_)
  · cases hf; exact M 1 Z (Y Z h)
  cases hf; exact M 1 Z (Y Z h)
 refine V 1 Z (C hf Z (fun h5 hf=>?_) fun h5 hf=>?_)
 · cases hf; exact M 1 Z (Y Z h)
 refine V 3 Z (C hf Z (fun h6 hf=>?_) fun h6 hf=>?_)
 · cases hf; exact M 1 Z (Y Z h)
 refine V 3 Z (C hf Z (fun h7 hf=>?_) fun h7 hf=>?_)
 · cases hf; exact M 1 Z (Y Z h)
 cases hf; exact M 1 Z (Y Z h)
theorem uU (a1:Str) (b1:Str) {r0:Int} (hf:gH a1 b1=some r0) (h:Q (.ret (iP r0)) τ):PC 136 [.str a1,.str b1] τ Q:=by
 unfold gH at hf; refine BN 59 [.tmp 4] [0,1] Tryz.func136 Z Z Z Z Z (V 1 Z (LU (fun a2 b2=>[(0,.str a2),(1,.str b2)]) (fun a2 b2=>[]) (fun dh a2 b2=>b_ dh a2 b2=some r0) BIG a1 b1 Z Z hf (fun _ _ hz=>bY hz) ?_)); intro dh a2 b2 hf; rw [b_] at hf; refine W 3 Z (An 3 10 13 [0,1] (!(b2 == ([]:Str))) Z Z Z Z (J 0 Z (C hf Z (fun h2 hf=>?_) fun h2 hf=>?_)))
 ·
  refine B1 hf fun n1 h3 hf=>W 1 Z (CL Z (uD _ h3 ?_)); refine B1 hf fun m1 h4 hf=>U 1 Z (CL Z (uD _ h4 (U 5 Z (An 3 20 23 [0,1,5,6] (decide (0 < m1)) Z Z Z Z (J 0 Z (C hf Z (fun h6 hf=>?_) fun h6 hf=>?_))))))
  ·
   refine V 0 Z (AW.draw 8 mixed (by kernel_rfl) Z ?_); refine Ev.cs aQ 2 Z ?_; refine B1 hf fun x1 h7 hf=>Ev.cons Z Z Z (AO.fC h7 Z bC Z Z ⟨_,Z⟩ zg) (Ev.cs aQ 2 Z ?_); refine B1 hf fun x2 h8 hf=>Ev.cons Z Z Z (AO.fC h8 Z bC Z Z ⟨_,Z⟩ zg) ?_; refine B1 hf fun c1 h9 hf=>Ev.cons Z Z Z (AO.call Z _ Z Z Jr (uT _ _ h9 zg)) (Ev.cs aQ 1 Z (Ev.nil ?_)); show AR _ _ _ _ _ _ _ _; refine J 2 Z (C hf Z (fun h10 hf=>?_) fun h10 hf=>?_)
   · cases hf; exact M 2 Z (Y Z h)
   refine V 0 Z (AW.draw 8 mixed (by kernel_rfl) Z ?_); refine Ev.cs aQ 2 Z ?_; refine B1 hf fun a3 h11 hf=>Ev.cons Z Z Z (AO.fC h11 Z bC Z ⟨_,Z⟩ Z zg) (Ev.cs aQ 2 Z ?_); refine B1 hf fun b3 h12 hf=>Ev.cons Z Z Z (AO.fC h12 Z bC Z ⟨_,Z⟩ Z zg) (Ev.cs aQ 2 Z (Ev.nil ?_)); show AR _ _ _ _ _ _ _ _; exact N 0 Z ⟨a3,b3,Z,Z,Z,hf⟩
  refine V 0 Z (AW.draw 5 mixed (by kernel_rfl) Z ?_); refine Ev.cs aQ 1 Z ?_; refine B1 hf fun x3 ni hf=>Ev.cons Z Z Z (AO.bP ni Z bC Z Z zg) (Ev.cs aQ 1 Z ?_); refine B1 hf fun x4 nI hf=>Ev.cons Z Z Z (AO.bP nI Z bC Z Z zg) (Ev.cs aQ 1 Z (Ev.nil ?_)); show AR _ _ _ _ _ _ _ _; refine J 0 Z (C hf Z (fun uZ hf=>?_) fun uZ hf=>?_)
  ·
   refine V 0 Z (AW.draw 6 mixed (by kernel_rfl) Z ?_); refine Ev.cs aQ 1 Z ?_; refine B1 hf fun x5 h16 hf=>Ev.cons Z Z Z (AO.bP h16 Z bC Z Z zg) (Ev.cs aQ 1 Z ?_); refine B1 hf fun x6 tF hf=>Ev.cons Z Z Z (AO.bP tF Z bC Z Z zg) ?_; refine BR hf fun x7 h18 hf=>?_; refine Ev.cons Z Z Z (AO.call Z _ Z Z Jq (q9 _ _ h18 zg)) (Ev.cs aQ 1 Z (Ev.nil ?_)); show AR _ _ _ _ _ _ _ _; cases hf; exact N 0 Z (Y Z h)
  refine V 0 Z (AW.draw 6 mixed (by kernel_rfl) Z ?_); refine Ev.cs aQ 1 Z ?_; refine B1 hf fun a4 h19 hf=>Ev.cons Z Z Z (AO.fC h19 Z bC Z ⟨_,Z⟩ Z zg) (Ev.cs aQ 1 Z ?_); refine B1 hf fun b4 h20 hf=>Ev.cons Z Z Z (AO.fC h20 Z bC Z ⟨_,Z⟩ Z zg) (Ev.cs aQ 2 Z (Ev.nil ?_)); show AR _ _ _ _ _ _ _ _; exact N 0 Z ⟨a4,b4,Z,Z,Z,hf⟩
 refine W 1 Z (AS Z (AO.aY Z Z Z Z bC Z (U 1 Z (AS Z (AO.aY Z Z Z Z bC Z ?_))))); refine BR hf fun x8 h21 hf=>?_; refine CL Z (jK _ _ h21 ?_); cases hf; exact N 1 Z (Y Z h)
theorem uS (l1:List Str) (i1:Int) {r0:Bool} (hf:gG l1 i1=some r0) (h:Q (.ret (.bool r0)) τ):PC 99 [sP l1,iP i1] τ Q:=by
 unfold gG at hf; refine BN 20 [.tmp 4] [0,1] Tryz.func99 Z Z Z Z Z (V 1 Z (AW.draw 16 mixed (by kernel_rfl) Z ?_)); refine Ev.cs aQ 3 Z ?_; refine BR hf fun b1 h2 hf=>?_; refine Ev.bH M0 12 7 19 false [] (.bool b1) Z Z (fun h1=>?_) (fun h1=>?_) ?_
 ·
  replace h2:=uj h1 h2; refine Ev.is Ig 7 h1 Z (Ev.cs aQ 3 Z ?_); refine B1 h2 fun e1 h3 h2=>Ev.run Z Z Z Z Z Z Z (AO.bn h3 Z Z Z Z gP Z Z zg) (Ev.cs aQ 3 Z ?_); refine B1 h2 fun e2 h4 h2=>Ev.run Z Z Z Z Z Z Z (AO.bn h4 Z Z Z Z gP Z Z zg) (Ev.cs aQ 1 Z ?_); refine B1 h2 fun x1 h5 h2=>Ev.run Z Z Z Z Z Z Z (AO.call Z _ Z Z Jw (uU _ _ h5 zg)) (Ev.cs aQ 1 Z ?_); cases h2; refine Ev.cs aQ 1 Z ?_; exact Ev.nil (Less.settle (ps:=[19]) Z)
 · replace h2:=wL h1 h2; refine Ev.is Ig 7 h1 Z ?_; cases h2; refine Ev.cs aQ 12 Z ?_; exact Ev.nil (Less.settle (ps:=[19]) Z)
 refine Ev.cs aQ 1 Z (Ev.nil ?_); show AR _ _ _ _ _ _ _ _; cases hf; exact N 0 Z (Y Z h)
section
variable [Hf]
theorem yu (bA:List Str) {r0:Int} (hf:g_ bA=some r0) (h:Q (.ret (iP r0)) τ):PC 53 [sP bA] τ Q:=by
 unfold g_ at hf; refine BN 43 [.tmp 2] [0] Tryz.func53 Z Z Z Z Z (W 2 Z (AS Z (AO.aR (l:=bA) Z Z Z Z gP Z Z (J 1 Z (C hf Z (fun h1 hf=>?_) fun h1 hf=>?_)))))
 · cases hf; exact M 1 Z (Y Z h)
 refine W 0 Z (AS Z (AO.Gh Z (fun m12=>(U 2 Z (AS Z (AO.aR (l:=bA) Z Z Z Z gP Z Z (J 1 Z (LU (fun i1 y1=>[(0,sP bA),(3,.val (.map (some m12))),(13,sP bA),(14,iP (bA.length:Int)),(15,iP i1)]) (fun i1 y1=>[.obj m12 (gN y1)]) (fun dh i1 y1=>dM bA dh i1 y1=some r0) BIG 0 [] Z Z hf (fun _ _ hz=>bY hz) ?_)))))))); intro dh i1 y1 hf; rw [dM] at hf; refine V 1 Z (C hf Z (fun h2 hf=>?_) fun h2 hf=>?_)
 ·
  refine B1 hf fun s1 h3 hf=>W 1 Z (AS Z (AO.bn h3 Z Z Z Z gP Z Z ?_)); obtain ⟨x1,x2,ok1,h4,hf⟩:=za hf; refine U 4 Z (CL Z (uR _ h4 (U 4 Z (AS Z (AO.dn Z vk (fun b6=>(Rw 6 [0] Z Z (C hf Z (fun h5 hf=>?_) fun h5 hf=>?_))))))))
  · cases hf; exact M 1 Z (Y Z h)
  refine Wr 3 [0] Z Z (AS Z (AO.H_ (i:=1) (l:=y1) Z Z Z Z Gc bC Mh (J 1 Z (C hf Z (fun h6 hf=>?_) fun h6 hf=>?_))))
  · cases hf; exact M 1 Z (Y Z h)
  refine B1 hf fun x3 h7 hf=>W 2 Z (CL Z (uS _ _ h7 (J 2 Z (C hf Z (fun h8 hf=>?_) fun h8 hf=>?_))))
  · cases hf; exact M 1 Z (Y Z h)
  refine Wr 3 [0] Z Z (AR.pR Z Z (AO.Db (n:=1) (i:=1) (l:=y1) Z Z Z Z Z Gc bC (bW 2 Z (AR.drop1 ?_)))); exact N 0 Z ⟨(fJ (i1 + 1)),(m_ y1 x1.name 1),Z,Z,Z,hf⟩
 cases hf; exact M 1 Z (Y Z h)
end
theorem qF (n1:Int) {r0:Bool} (hf:j3 n1=some r0) (h:Q (.ret (.bool r0)) τ):PC 54 [iP n1] τ Q:=by
 unfold j3 at hf; refine BN 9 [.tmp 2] [0] Tryz.func54 Z Z Z Z Z (W 4 Z (An 3 5 8 [] (decide (n1≤1125899906842624)) Z Z Z Z ?_)); cases hf; exact N 1 Z (Y Z h)
theorem uQ (l1:List Int) {r0:Bool} (hf:iQ l1=some r0) (h:Q (.ret (.bool r0)) τ):PC 55 [.list (List.map jr l1)] τ Q:=by
 unfold iQ at hf; refine BN 32 [.tmp 2] [0] Tryz.func55 Z Z Z Z Z (W 2 Z (AS Z (AO.aR (l:=l1) Z Z Z Z kI Z Z (J 1 Z (xM (fun i1=>[(0,.list (List.map jr l1)),(5,.list (List.map jr l1)),(6,iP (l1.length:Int)),(7,iP i1)]) (fun i1=>[]) (fun dh i1=>eG l1 dh i1=some r0) BIG 0 Z Z hf (fun _ hz=>bY hz) ?_))))); intro dh i1 hf; rw [eG] at hf; refine V 1 Z (C hf Z (fun h1 hf=>?_) fun h1 hf=>?_)
 ·
  refine B1 hf fun t1 h2 hf=>W 1 Z (AS Z (AO.bn h2 Z Z Z Z kI Z Z (U 6 Z (On 3 14 17 [0,3,4,5,6,7] (decide (1125899906842624 < t1)) Z Z Z Z ?_)))); refine B1 hf fun b1 h5 hf=>U 1 Z (AR.bH 12 18 30 false [0,5,6,7] b1 Z Z (fun h4=>?_) (fun h4=>?_) ?_)
  ·
   refine IF 18 h4 h5 Z fun h5=>?_; refine BR h5 fun b2 h7 h5=>?_; refine U 3 Z (AR.bH 8 21 29 true [0,5,6,7,18] b2 Z Z (fun h6=>?_) (fun h6=>?_) ?_)
   · refine IT 21 h6 h7 Z fun h7=>?_; refine B1 h7 fun e1 h8 h7=>U 3 Z (GO Z (AO.bn h8 Z Z Z Z kI Z Z ?_)); cases h7; exact bW 4 Z (En [29,0,5,6,7,18] Z)
   · refine IF 21 h6 h7 Z fun h7=>?_; cases h7; exact bW 8 Z (En [29,0,5,6,7,18] Z)
   cases h5; exact bW 1 Z (En [30,0,5,6,7] Z)
  · refine IT 18 h4 h5 Z fun h5=>?_; cases h5; exact bW 12 Z (En [30,0,5,6,7] Z)
  refine J 0 Z (C hf Z (fun h9 hf=>?_) fun h9 hf=>?_)
  · cases hf; exact M 1 Z (Y Z h)
  exact M 2 Z ⟨(fJ (i1 + 1)),Z,Z,Z,hf⟩
 cases hf; exact M 1 Z (Y Z h)
section
variable [Hf]
theorem xw (w1:av) {r0:Int} (hf:jy w1=some r0) (h:Q (.ret (iP r0)) τ):PC 22 [.agg (fE w1)] τ Q:=by
 unfold jy at hf; refine BN 87 [.tmp 2] [0] Tryz.func22 Z Z Z Z Z ?_; refine B1 hf fun x1 h1 hf=>W 4 Z (CL Z (kS _ h1 (J 1 Z (C hf Z (fun h2 hf=>?_) fun h2 hf=>?_))))
 · cases hf; exact M 1 Z (Y Z h)
 refine B1 hf fun e1 h3 hf=>W 2 Z (CL Z (yu _ h3 (J 3 Z (C hf Z (fun h4 hf=>?_) fun h4 hf=>?_))))
 · cases hf; exact M 2 Z (Y Z h)
 refine W 8 Z (On 4 22 26 [1,4] (decide (2 < w1.trust)) Z Z Z Z (U 1 Z (On 4 27 31 [1,4] (decide (w1.slots < 1)) Z Z Z Z (U 1 Z (On 4 32 36 [1,4] (decide (64 < w1.slots)) Z Z Z Z (U 1 Z (On 4 37 41 [1,4] (decide (w1.phase < 0)) Z Z Z Z ?_))))))); refine U 1 Z (On 4 42 46 [1,4] (decide (3 < w1.phase)) Z Z Z Z ?_); refine B1 hf fun b1 h11 hf=>U 1 Z (AR.bH 5 47 52 false [1,4] b1 Z Z (fun h10=>?_) (fun h10=>?_) ?_)
 · refine IF 47 h10 h11 Z fun h11=>?_; refine B1 h11 fun x2 h12 h11=>U 2 Z (GO Z (AO.call Z _ Z Z IY (qF _ h12 ?_))); cases h11; exact bW 2 Z (En [52,1,4] Z)
 · refine IT 47 h10 h11 Z fun h11=>?_; cases h11; exact bW 5 Z (En [52,1,4] Z)
 refine B1 hf fun b2 nI hf=>U 1 Z (AR.bH 5 53 58 false [1,4] b2 Z Z (fun ni=>?_) (fun ni=>?_) ?_)
 · refine IF 53 ni nI Z fun nI=>?_; refine B1 nI fun x3 uZ nI=>U 2 Z (GO Z (AO.call Z _ Z Z IY (qF _ uZ ?_))); cases nI; exact bW 2 Z (En [58,1,4] Z)
 · refine IT 53 ni nI Z fun nI=>?_; cases nI; exact bW 5 Z (En [58,1,4] Z)
 refine J 1 Z (C hf Z (fun h16 hf=>?_) fun h16 hf=>?_)
 · cases hf; exact M 1 Z (Y Z h)
 refine W 4 Z (An 3 63 66 [1,4] (!(w1.phase == 2)) Z Z Z Z (U 1 Z (AR.or 7 67 74 [1] (x:=((w1.phase == 2) && (!w1.bq))) Z Z (fun h18=>?_) (fun h18=>?_) ?_)))
 · refine Is 67 h18 Z (U 2 Z (An 4 69 73 [1,67] (!w1.bq) Z Z Z Z ?_)); exact bW 1 Z (En [74,1] Z)
 · refine Is 67 h18 Z ?_; exact bW 7 Z (En [74,1] Z)
 refine J 1 Z (C hf Z (fun h20 hf=>?_) fun h20 hf=>?_)
 · cases hf; exact M 1 Z (Y Z h)
 refine B1 hf fun x4 h21 hf=>W 2 Z (CL Z (uQ _ h21 (J 2 Z (C hf Z (fun h22 hf=>?_) fun h22 hf=>?_))))
 · cases hf; exact M 1 Z (Y Z h)
 refine W 2 Z (AS Z (AO.aR (l:=w1.tokens) Z Z Z Z kI Z Z (J 4 Z (C hf Z (fun h23 hf=>?_) fun h23 hf=>?_))))
 · cases hf; exact M 1 Z (Y Z h)
 cases hf; exact M 1 Z (Y Z h)
end
theorem Cz (n1:Int) (lo1:Int) (hi1:Int) {r0:Int} (hf:pW n1 lo1 hi1=some r0) (h:Q (.ret (iP r0)) τ):PC 23 [iP n1,iP lo1,iP hi1] τ Q:=by
 unfold pW at hf; refine BN 12 [.tmp 6] [0,1,2] Tryz.func23 Z Z Z Z Z (W 4 Z (AS Z (AO.min2 Z Z Z Z Z (AS Z (AO.max2 Z Z Z Z Z ?_))))); cases hf; exact N 1 Z (Y Z h)
section
variable [Hf]
theorem CB (w1:av) (eZ:Int) {r0:aX} {r1:Int} (hf:nE w1 eZ=some (r0,r1)) (h:Q (.ret (.tuple [.agg (qb r0),iP r1])) τ):PC 7 [.agg (fE w1),iP eZ] τ Q:=by
 unfold nE at hf; refine BN 35 [.cell 4 29,.tmp 5] [0,1] Tryz.func7 Z Z Z Z Z (W 1 Z (AS Z (AO.dn Z DI (fun b4=>(J 1 Z (AW.Lx 12 25 [6] mixed (by kernel_rfl) Z Fu Z (by kernel_rfl) (by decide) ?_)))))); refine Ev.cs aQ 4 Z ?_; refine B1 hf fun x1 h1 hf=>Ev.cons Z Z Z (AO.call Z _ Z Z KX (jV _ h1 zg)) (Ev.cs aQ 6 Z (Ev.cons Z Z Z (AO.build Z Fu Jp Z zg) (Ev.nil ?_))); intro b6; show AR _ _ _ _ _ _ _ _; refine B1 hf fun e1 h2 hf=>Rr 2 [0,0] Z Z (CL Z (xw _ h2 (J 3 Z (C hf Z (fun h3 hf=>?_) fun h3 hf=>?_))))
 · cases hf; exact Wx 4 [1] Z Z (ZC [1] Z Z h)
 refine B1 hf fun x2 h4 hf=>W 1 Z (CL Z (Cz _ _ _ h4 (J 2 Z (C hf Z (fun h5 hf=>?_) fun h5 hf=>?_))))
 · cases hf; exact Wx 3 [1] Z Z (ZC [1] Z Z h)
 cases hf; exact Wx 6 [0,1] Z Z (ZC [1] Z Z h)
end
theorem nU (w1:av) {r0:av} (hf:jQ w1=some r0) (h:Q (.ret (.agg (fE r0))) τ):PC 25 [.agg (fE w1)] τ Q:=by
 unfold jQ at hf; refine BN 14 [.cell 2 25] [0] Tryz.func25 Z Z Z Z Z (W 1 Z (AS Z (AO.dn Z Fu (fun b2=>?_)))); cases hf; exact Rx 12 [0] Z Z (ZC [0] Z Z h)
theorem r_ (c1:UInt8) {r0:Bool} (hf:lD c1=some r0) (h:Q (.ret (.bool r0)) τ):PC 100 [.int .u8 (c1.toNat:Int)] τ Q:=by
 unfold lD at hf; refine BN 17 [.tmp 2] [0] Tryz.func100 Z Z Z Z Z (W 4 Z (An 3 5 8 [0] (decide ((c1.toNat:Int)≤122)) Z Z Z Z (U 1 Z (AR.or 7 9 16 [] (x:=((decide (48≤(c1.toNat:Int))) && (decide ((c1.toNat:Int)≤57)))) Z Z (fun h2=>?_) (fun h2=>?_) ?_))))
 · refine Is 9 h2 Z (U 3 Z (An 3 12 15 [9] (decide ((c1.toNat:Int)≤57)) Z Z Z Z ?_)); exact bW 1 Z (En [16] Z)
 · refine Is 9 h2 Z ?_; exact bW 7 Z (En [16] Z)
 cases hf; exact N 1 Z (Y Z h)
theorem nW (s1:Str) {r0:Bool} (hf:jE s1=some r0) (h:Q (.ret (.bool r0)) τ):PC 56 [.str s1] τ Q:=by
 unfold jE at hf; refine BN 47 [.tmp 2] [0] Tryz.func56 Z Z Z Z Z (W 2 Z (AS Z (AO.aY Z Z Z Z bC Z (U 2 Z (AR.or 4 7 11 [0] (x:=(decide (64 < (s1.length:Int)))) Z Z (fun h1=>?_) (fun h1=>?_) ?_)))))
 · refine Is 7 h1 Z (U 1 Z (GO Z (AO.aY Z Z Z Z bC Z ?_))); exact bW 2 Z (En [11,0] Z)
 · refine Is 7 h1 Z ?_; exact bW 4 Z (En [11,0] Z)
 refine B1 hf fun b1 h3 hf=>U 1 Z (AR.bH 5 12 17 false [0] b1 Z Z (fun h2=>?_) (fun h2=>?_) ?_)
 · refine IF 12 h2 h3 Z fun h3=>?_; refine B1 h3 fun x1 h4 h3=>U 1 Z (GO Z (AO.bP h4 Z bC Z Z ?_)); refine B1 h3 fun x2 h5 h3=>GO Z (AO.call Z _ Z Z JB (r_ _ h5 ?_)); cases h3; exact bW 2 Z (En [17,0] Z)
 · refine IT 12 h2 h3 Z fun h3=>?_; cases h3; exact bW 5 Z (En [17,0] Z)
 refine J 0 Z (C hf Z (fun h6 hf=>?_) fun h6 hf=>?_)
 · cases hf; exact M 1 Z (Y Z h)
 refine V 1 Z (xM (fun i1=>[(0,.str s1),(3,iP i1)]) (fun i1=>[]) (fun dh i1=>gW s1 dh i1=some r0) BIG 0 Z Z hf (fun _ hz=>bY hz) ?_); intro dh i1 hf; rw [gW] at hf; refine W 2 Z (AS Z (AO.aY Z Z Z Z bC Z (J 1 Z (C hf Z (fun h7 hf=>?_) fun h7 hf=>?_))))
 ·
  refine B1 hf fun x3 h8 hf=>W 2 Z (AS Z (AO.bP h8 Z bC Z Z ?_)); refine B1 hf fun x4 h9 hf=>CL Z (r_ _ h9 ?_); refine B1 hf fun b2 h11 hf=>U 2 Z (AR.bH 5 29 34 true [0,3] b2 Z Z (fun h10=>?_) (fun h10=>?_) ?_)
  · refine IT 29 h10 h11 Z fun h11=>?_; refine B1 h11 fun x5 h12 h11=>U 2 Z (GO Z (AO.bP h12 Z bC Z Z ?_)); cases h11; exact bW 2 Z (En [34,0,3] Z)
  · refine IF 29 h10 h11 Z fun h11=>?_; cases h11; exact bW 5 Z (En [34,0,3] Z)
  refine B1 hf fun b3 nI hf=>U 1 Z (AR.bH 5 35 40 true [0,3] b3 Z Z (fun ni=>?_) (fun ni=>?_) ?_)
  · refine IT 35 ni nI Z fun nI=>?_; refine B1 nI fun x6 uZ nI=>U 2 Z (GO Z (AO.bP uZ Z bC Z Z ?_)); cases nI; exact bW 2 Z (En [40,0,3] Z)
  · refine IF 35 ni nI Z fun nI=>?_; cases nI; exact bW 5 Z (En [40,0,3] Z)
  refine B1 hf fun b4 tF hf=>U 1 Z (AR.bH 5 41 46 true [0,3] b4 Z Z (fun h16=>?_) (fun h16=>?_) ?_)
  · refine IT 41 h16 tF Z fun tF=>?_; refine B1 tF fun x7 h18 tF=>U 2 Z (GO Z (AO.bP h18 Z bC Z Z ?_)); cases tF; exact bW 2 Z (En [46,0,3] Z)
  · refine IF 41 h16 tF Z fun tF=>?_; cases tF; exact bW 5 Z (En [46,0,3] Z)
  refine J 0 Z (C hf Z (fun h19 hf=>?_) fun h19 hf=>?_)
  · cases hf; exact M 1 Z (Y Z h)
  exact M 3 Z ⟨(fJ (i1 + 1)),Z,Z,Z,hf⟩
 cases hf; exact M 1 Z (Y Z h)
theorem Cx (s1:Str) {r0:Str} {r1:Str} (hf:mX s1=some (r0,r1)) (h:Q (.ret (.tuple [.str r0,.str r1])) τ):PC 188 [.str s1] τ Q:=by
 unfold mX at hf; refine BN 34 [.tmp 2,.tmp 3] [0] Tryz.func188 Z Z Z Z Z (V 3 Z (xM (fun i1=>[(0,.str s1),(4,iP i1)]) (fun i1=>[]) (fun dh i1=>iE s1 dh i1=some (r0,r1)) BIG 0 Z Z hf (fun _ hz=>bY hz) ?_)); intro dh i1 hf; rw [iE] at hf; refine W 2 Z (AS Z (AO.aY Z Z Z Z bC Z (J 1 Z (C hf Z (fun h1 hf=>?_) fun h1 hf=>?_))))
 ·
  refine B1 hf fun x1 h2 hf=>W 2 Z (AS Z (AO.bP h2 Z bC Z Z ?_)); refine B1 hf fun b1 h4 hf=>U 2 Z (AR.bH 5 15 20 false [0,4] b1 Z Z (fun h3=>?_) (fun h3=>?_) ?_)
  · refine IF 15 h3 h4 Z fun h4=>?_; refine B1 h4 fun x2 h5 h4=>U 2 Z (GO Z (AO.bP h5 Z bC Z Z ?_)); cases h4; exact bW 2 Z (En [20,0,4] Z)
  · refine IT 15 h3 h4 Z fun h4=>?_; cases h4; exact bW 5 Z (En [20,0,4] Z)
  refine B1 hf fun b2 h7 hf=>U 1 Z (AR.bH 5 21 26 false [0,4] b2 Z Z (fun h6=>?_) (fun h6=>?_) ?_)
  · refine IF 21 h6 h7 Z fun h7=>?_; refine B1 h7 fun x3 h8 h7=>U 2 Z (GO Z (AO.bP h8 Z bC Z Z ?_)); cases h7; exact bW 2 Z (En [26,0,4] Z)
  · refine IT 21 h6 h7 Z fun h7=>?_; cases h7; exact bW 5 Z (En [26,0,4] Z)
  refine J 0 Z (C hf Z (fun h9 hf=>?_) fun h9 hf=>?_)
  ·
   refine V 0 Z (AW.draw 8 mixed (by kernel_rfl) Z ?_); refine Ev.cs aQ 2 Z ?_; refine B1 hf fun x4 h10 hf=>Ev.cons Z Z Z (AO.fC h10 Z bC Z Z ⟨_,Z⟩ zg) (Ev.cs aQ 2 Z ?_); refine B1 hf fun x5 h11 hf=>Ev.cons Z Z Z (AO.fC h11 Z bC Z ⟨_,Z⟩ Z zg) (Ev.cs aQ 2 Z (Ev.nil ?_)); show AR _ _ _ _ _ _ _ _; cases hf; exact N 0 Z (Y Z h)
  exact M 3 Z ⟨(fJ (i1 + 1)),Z,Z,Z,hf⟩
 cases hf; exact M 3 Z (Y Z h)
theorem zX (s1:Str) {r0:Int} {r1:Bool} (hf:fZ s1=some (r0,r1)) (h:Q (.ret (.tuple [iP r0,.bool r1])) τ):PC 231 [.str s1] τ Q:=by
 unfold fZ at hf; refine BN 50 [.tmp 2,.tmp 3] [0] Tryz.func231 Z Z Z Z Z (W 5 Z (AR.or 4 8 12 [0] (x:=(decide (16 < (s1.length:Int)))) Z Z (fun h1=>?_) (fun h1=>?_) ?_))
 · refine Is 8 h1 Z (U 1 Z (GO Z (AO.aY Z Z Z Z bC Z ?_))); exact bW 2 Z (En [12,0] Z)
 · refine Is 8 h1 Z ?_; exact bW 4 Z (En [12,0] Z)
 refine B1 hf fun b1 h3 hf=>U 1 Z (AR.bH 9 13 22 false [0] b1 Z Z (fun h2=>?_) (fun h2=>?_) ?_)
 ·
  replace h3:=uj h2 h3; refine Is 13 h2 Z (U 1 Z (GO Z (AO.aY Z Z Z Z bC Z ?_))); refine BR h3 fun b2 h5 h3=>?_; refine U 2 Z (AR.bH 4 17 21 true [0,13] b2 Z Z (fun h4=>?_) (fun h4=>?_) ?_)
  · refine IT 17 h4 h5 Z fun h5=>?_; refine B1 h5 fun x1 h6 h5=>U 1 Z (GO Z (AO.bP h6 Z bC Z Z ?_)); cases h5; exact bW 2 Z (En [21,0,13] Z)
  · refine IF 17 h4 h5 Z fun h5=>?_; cases h5; exact bW 4 Z (En [21,0,13] Z)
  cases h3; exact bW 1 Z (En [22,0] Z)
 · refine IT 13 h2 h3 Z fun h3=>?_; cases h3; exact bW 9 Z (En [22,0] Z)
 refine J 0 Z (C hf Z (fun h7 hf=>?_) fun h7 hf=>?_)
 · cases hf; exact M 2 Z (Y Z h)
 refine V 2 Z (LU (fun n1 i1=>[(0,.str s1),(4,iP n1),(5,iP i1)]) (fun n1 i1=>[]) (fun dh n1 i1=>dx s1 dh n1 i1=some (r0,r1)) BIG 0 0 Z Z hf (fun _ _ hz=>bY hz) ?_); intro dh n1 i1 hf; rw [dx] at hf; refine W 2 Z (AS Z (AO.aY Z Z Z Z bC Z (J 1 Z (C hf Z (fun h8 hf=>?_) fun h8 hf=>?_))))
 ·
  refine B1 hf fun x2 h9 hf=>W 2 Z (AS Z (AO.bP h9 Z bC Z Z ?_)); refine B1 hf fun b3 h11 hf=>U 2 Z (AR.bH 5 33 38 false [0,4,5] b3 Z Z (fun h10=>?_) (fun h10=>?_) ?_)
  · refine IF 33 h10 h11 Z fun h11=>?_; refine B1 h11 fun x3 h12 h11=>U 2 Z (GO Z (AO.bP h12 Z bC Z Z ?_)); cases h11; exact bW 2 Z (En [38,0,4,5] Z)
  · refine IT 33 h10 h11 Z fun h11=>?_; cases h11; exact bW 5 Z (En [38,0,4,5] Z)
  refine J 0 Z (C hf Z (fun ni hf=>?_) fun ni hf=>?_)
  · cases hf; exact M 2 Z (Y Z h)
  refine B1 hf fun x4 nI hf=>W 4 Z (AS Z (AO.bP nI Z bC Z Z (AS Z (AO.Fz x4 48 Z Z Z Z Z (AS Z (AO.yX Z Hr KI Z Z ?_)))))); exact N 5 Z ⟨(fJ ((fJ (10 * n1)) + ((x4 - 48).toNat:Int))),(fJ (i1 + 1)),Z,Z,Z,hf⟩
 cases hf; exact M 5 Z (Y Z h)
theorem qZ (D_:Int) (name1:Str) (n1:Str) {r0:aB} (hf:gV D_ name1 n1=some r0) (h:Q (.ret (.agg [iP r0.form,.str r0.name,iP r0.n])) τ):PC 189 [iP D_,.str name1,.str n1] τ Q:=by
 unfold gV at hf; refine BN 26 [.cell 6 190] [0,1,2] Tryz.func189 Z Z Z Z Z (W 0 Z (AS Z (AO.dn Z zk (fun b6=>?_)))); obtain ⟨x1,ok1,h1,hf⟩:=jo hf; refine U 1 Z (CL Z (zX _ h1 ?_)); refine B1 hf fun b1 h3 hf=>U 8 Z (AR.bH 4 16 20 false [0,1,6,7] b1 Z Z (fun h2=>?_) (fun h2=>?_) ?_)
 · refine IF 16 h2 h3 Z fun h3=>?_; refine B1 h3 fun x2 h4 h3=>U 1 Z (GO Z (AO.call Z _ Z Z IX (nW _ h4 ?_))); cases h3; exact bW 2 Z (En [20,0,1,6,7] Z)
 · refine IT 16 h2 h3 Z fun h3=>?_; cases h3; exact bW 4 Z (En [20,0,1,6,7] Z)
 refine J 0 Z (C hf Z (fun h5 hf=>?_) fun h5 hf=>?_)
 · cases hf; exact Wx 2 [0] Z Z (ZC [0] Z Z h)
 cases hf; exact Wx 5 [0] Z Z (ZC [0] Z Z h)
theorem Dv (s1:Str) {r0:aB} (hf:oZ s1=some r0) (h:Q (.ret (.agg [iP r0.form,.str r0.name,iP r0.n])) τ):PC 137 [.str s1] τ Q:=by
 unfold oZ at hf; refine BN 75 [.cell 2 190] [0] Tryz.func137 Z Z Z Z Z (W 0 Z (AS Z (AO.dn Z zk (fun b2=>(U 1 Z (AS Z (AO.aY Z Z Z Z bC Z ?_))))))); refine B1 hf fun b1 h2 hf=>U 2 Z (AR.bH 4 8 12 true [0,2] b1 Z Z (fun h1=>?_) (fun h1=>?_) ?_)
 · refine IT 8 h1 h2 Z fun h2=>?_; refine B1 h2 fun x1 h3 h2=>U 1 Z (GO Z (AO.bP h3 Z bC Z Z ?_)); cases h2; exact bW 2 Z (En [12,0,2] Z)
 · refine IF 8 h1 h2 Z fun h2=>?_; cases h2; exact bW 4 Z (En [12,0,2] Z)
 refine J 0 Z (C hf Z (fun h4 hf=>?_) fun h4 hf=>?_)
 ·
  refine B1 hf fun x2 h5 hf=>W 1 Z (AS Z (AO.fC h5 Z bC Z ⟨_,Z⟩ Z ?_)); refine B1 hf fun x3 h6 hf=>CL Z (nW _ h6 (J 1 Z (C hf Z (fun h7 hf=>?_) fun h7 hf=>?_)))
  · cases hf; exact Wx 2 [0] Z Z (ZC [0] Z Z h)
  refine B1 hf fun x4 h8 hf=>W 1 Z (AS Z (AO.fC h8 Z bC Z ⟨_,Z⟩ Z ?_)); cases hf; exact Rx 2 [0] Z Z (ZC [0] Z Z h)
 obtain ⟨name1,iR,h9,hf⟩:=jo hf; refine W 1 Z (CL Z (Cx _ h9 ?_)); refine B1 hf fun b2 h11 hf=>U 8 Z (AR.bH 3 29 32 true [2,3,4] b2 Z Z (fun h10=>?_) (fun h10=>?_) ?_)
 · refine IT 29 h10 h11 Z fun h11=>?_; refine BR h11 fun x5 h12 h11=>?_; refine U 1 Z (GO Z (AO.call Z _ Z Z IX (nW _ h12 ?_))); cases h11; exact bW 1 Z (En [32,2,3,4] Z)
 · refine IF 29 h10 h11 Z fun h11=>?_; cases h11; exact bW 3 Z (En [32,2,3,4] Z)
 refine J 1 Z (C hf Z (fun ni hf=>?_) fun ni hf=>?_)
 · cases hf; exact Wx 3 [0] Z Z (ZC [0] Z Z h)
 refine W 1 Z (AS Z (AO.aY Z Z Z Z bC Z ?_)); refine B1 hf fun b3 uZ hf=>U 2 Z (AR.bH 4 39 43 true [2,3,4] b3 Z Z (fun nI=>?_) (fun nI=>?_) ?_)
 · refine IT 39 nI uZ Z fun uZ=>?_; refine B1 uZ fun x6 h16 uZ=>U 1 Z (GO Z (AO.fC h16 Z bC Z Z ⟨_,Z⟩ ?_)); cases uZ; exact bW 2 Z (En [43,2,3,4] Z)
 · refine IF 39 nI uZ Z fun uZ=>?_; cases uZ; exact bW 4 Z (En [43,2,3,4] Z)
 refine J 1 Z (C hf Z (fun tF hf=>?_) fun tF hf=>?_)
 · refine B1 hf fun x7 h18 hf=>W 2 Z (AS Z (AO.fC h18 Z bC Z ⟨_,Z⟩ Z ?_)); refine BR hf fun x8 h19 hf=>?_; refine CL Z (qZ _ _ _ h19 ?_); cases hf; exact Rx 1 [0] Z Z (ZC [0] Z Z h)
 refine W 1 Z (AS Z (AO.aY Z Z Z Z bC Z ?_)); refine B1 hf fun b4 h21 hf=>U 2 Z (AR.bH 4 52 56 true [2,3,4] b4 Z Z (fun h20=>?_) (fun h20=>?_) ?_)
 · refine IT 52 h20 h21 Z fun h21=>?_; refine B1 h21 fun x9 h22 h21=>U 1 Z (GO Z (AO.fC h22 Z bC Z Z ⟨_,Z⟩ ?_)); cases h21; exact bW 2 Z (En [56,2,3,4] Z)
 · refine IF 52 h20 h21 Z fun h21=>?_; cases h21; exact bW 4 Z (En [56,2,3,4] Z)
 refine J 1 Z (C hf Z (fun h23 hf=>?_) fun h23 hf=>?_)
 · refine B1 hf fun Jj M7 hf=>W 2 Z (AS Z (AO.fC M7 Z bC Z ⟨_,Z⟩ Z ?_)); refine BR hf fun NI M6 hf=>?_; refine CL Z (qZ _ _ _ M6 ?_); cases hf; exact Rx 1 [0] Z Z (ZC [0] Z Z h)
 refine W 1 Z (AS Z (AO.aY Z Z Z Z bC Z ?_)); refine B1 hf fun b5 h27 hf=>U 2 Z (AR.bH 4 65 69 true [2,3,4] b5 Z Z (fun Ih=>?_) (fun Ih=>?_) ?_)
 · refine IT 65 Ih h27 Z fun h27=>?_; refine B1 h27 fun Np JQ h27=>U 1 Z (GO Z (AO.bP JQ Z bC Z Z ?_)); cases h27; exact bW 2 Z (En [69,2,3,4] Z)
 · refine IF 65 Ih h27 Z fun h27=>?_; cases h27; exact bW 4 Z (En [69,2,3,4] Z)
 refine J 1 Z (C hf Z (fun Fj hf=>?_) fun Fj hf=>?_)
 · refine B1 hf fun LX M5 hf=>W 2 Z (AS Z (AO.fC M5 Z bC Z ⟨_,Z⟩ Z ?_)); refine BR hf fun N9 h31 hf=>?_; refine CL Z (qZ _ _ _ h31 ?_); cases hf; exact Rx 1 [0] Z Z (ZC [0] Z Z h)
 cases hf; exact Wx 2 [0] Z Z (ZC [0] Z Z h)
theorem pI (s1:Str) {r0:aB} (hf:gF s1=some r0) (h:Q (.ret (.agg [iP r0.form,.str r0.name,iP r0.n])) τ):PC 101 [.str s1] τ Q:=by
 unfold gF at hf; refine BN 16 [.cell 2 190] [0] Tryz.func101 Z Z Z Z Z (W 0 Z (AS Z (AO.dn Z zk (fun b2=>?_)))); refine B1 hf fun x1 h1 hf=>U 1 Z (CL Z (Dv _ h1 (AS Z (AO.dn Z zk (fun b3=>(Rr 5 [0,0] Z Z (AR.and 4 9 13 [2,3] (x:=(x1.form != 5)) Z Z (fun h2=>?_) (fun h2=>?_) ?_)))))))
 · refine Is 9 h2 Z (U 1 Z (GO Z (AO.rU (i:=0) Z Z Z KM Z Z ?_))); exact bW 2 Z (En [13,2,3] Z)
 · refine Is 9 h2 Z ?_; exact bW 4 Z (En [13,2,3] Z)
 refine J 0 Z (C hf Z (fun h3 hf=>?_) fun h3 hf=>?_)
 · cases hf; exact Wx 2 [1] Z Z (ZC [1] Z Z h)
 cases hf; exact Wx 2 [0,1] Z Z (ZC [1] Z Z h)
theorem kE (D7:Bool) (rX:Bool) {r0:Int} (hf:iH D7 rX=some r0) (h:Q (.ret (iP r0)) τ):PC 138 [.bool D7,.bool rX] τ Q:=by
 unfold iH at hf; refine BN 7 [.tmp 4] [0,1] Tryz.func138 Z Z Z Z Z (V 2 Z (C hf Z (fun h1 hf=>?_) fun h1 hf=>?_))
 · cases hf; exact M 1 Z (Y Z h)
 refine V 1 Z (C hf Z (fun h2 hf=>?_) fun h2 hf=>?_)
 · cases hf; exact M 1 Z (Y Z h)
 cases hf; exact M 1 Z (Y Z h)
theorem pJ (c1:UInt8) {r0:Bool} (hf:kW c1=some r0) (h:Q (.ret (.bool r0)) τ):PC 139 [.int .u8 (c1.toNat:Int)] τ Q:=by
 unfold kW at hf; refine BN 9 [.tmp 2] [0] Tryz.func139 Z Z Z Z Z (W 4 Z (An 3 5 8 [] (decide ((c1.toNat:Int)≤57)) Z Z Z Z ?_)); cases hf; exact N 1 Z (Y Z h)
theorem y7 (s1:Str) (LK:Int) {r0:Int} (hf:rR s1 LK=some r0) (h:Q (.ret (iP r0)) τ):PC 140 [.str s1,iP LK] τ Q:=by
 unfold rR at hf; refine BN 18 [.tmp 4] [0,1] Tryz.func140 Z Z Z Z Z (V 1 Z (xM (fun at2=>[(0,.str s1),(1,iP at2)]) (fun at2=>[]) (fun dh at2=>lC s1 dh at2=some r0) BIG LK Z Z hf (fun _ hz=>bY hz) ?_)); intro dh at2 hf; rw [lC] at hf; refine W 2 Z (AS Z (AO.aY Z Z Z Z bC Z ?_)); refine B1 hf fun b1 h2 hf=>U 2 Z (AR.bH 5 9 14 true [0,1] b1 Z Z (fun h1=>?_) (fun h1=>?_) ?_)
 · refine IT 9 h1 h2 Z fun h2=>?_; refine B1 h2 fun x1 h3 h2=>U 2 Z (GO Z (AO.bP h3 Z bC Z Z ?_)); refine BR h2 fun x2 h4 h2=>?_; refine GO Z (AO.call Z _ Z Z FQ (pJ _ h4 ?_)); cases h2; exact bW 1 Z (En [14,0,1] Z)
 · refine IF 9 h1 h2 Z fun h2=>?_; cases h2; exact bW 5 Z (En [14,0,1] Z)
 refine J 0 Z (C hf Z (fun h5 hf=>?_) fun h5 hf=>?_)
 · exact M 3 Z ⟨(fJ (at2 + 1)),Z,Z,Z,hf⟩
 cases hf; exact M 2 Z (Y Z h)
theorem uy (s1:Str) {r0:Str} (hf:kV s1=some r0) (h:Q (.ret (.str r0)) τ):PC 190 [.str s1] τ Q:=by
 unfold kV at hf; refine BN 19 [.tmp 2] [0] Tryz.func190 Z Z Z Z Z (V 2 Z (xM (fun i1=>[(0,.str s1),(3,iP i1)]) (fun i1=>[]) (fun dh i1=>iG s1 dh i1=some r0) BIG 0 Z Z hf (fun _ hz=>bY hz) ?_)); intro dh i1 hf; rw [iG] at hf; refine W 2 Z (AS Z (AO.aY Z Z Z Z bC Z ?_)); refine B1 hf fun b1 h2 hf=>U 2 Z (AR.bH 5 8 13 true [0,3] b1 Z Z (fun h1=>?_) (fun h1=>?_) ?_)
 · refine IT 8 h1 h2 Z fun h2=>?_; refine B1 h2 fun x1 h3 h2=>U 2 Z (GO Z (AO.bP h3 Z bC Z Z ?_)); cases h2; exact bW 2 Z (En [13,0,3] Z)
 · refine IF 8 h1 h2 Z fun h2=>?_; cases h2; exact bW 5 Z (En [13,0,3] Z)
 refine J 0 Z (C hf Z (fun h4 hf=>?_) fun h4 hf=>?_)
 · exact M 3 Z ⟨(fJ (i1 + 1)),Z,Z,Z,hf⟩
 refine BR hf fun x2 h5 hf=>?_; refine W 2 Z (AS Z (AO.fC h5 Z bC Z ⟨_,Z⟩ Z ?_)); cases hf; exact N 1 Z (Y Z h)
theorem Dw (a1:Str) (b1:Str) {r0:Int} (hf:o7 a1 b1=some r0) (h:Q (.ret (iP r0)) τ):PC 141 [.str a1,.str b1] τ Q:=by
 unfold o7 at hf; refine BN 48 [.tmp 4] [0,1] Tryz.func141 Z Z Z Z Z ?_; refine B1 hf fun x1 h1 hf=>W 2 Z (CL Z (uy _ h1 ?_)); refine B1 hf fun y1 h2 hf=>U 1 Z (CL Z (uy _ h2 (U 3 Z (AS Z (AO.aY Z Z Z Z bC Z (U 1 Z (AS Z (AO.aY Z Z Z Z bC Z (J 1 Z (C hf Z (fun h3 hf=>?_) fun h3 hf=>?_))))))))))
 · refine W 1 Z (AS Z (AO.aY Z Z Z Z bC Z (U 1 Z (AS Z (AO.aY Z Z Z Z bC Z (U 2 Z (AS Z (AO.aY Z Z Z Z bC Z (U 1 Z (AS Z (AO.aY Z Z Z Z bC Z ?_))))))))))); refine BR hf fun x2 h4 hf=>?_; refine U 1 Z (CL Z (kE _ _ h4 ?_)); cases hf; exact N 1 Z (Y Z h)
 refine V 3 Z (C hf Z (fun h5 hf=>?_) fun h5 hf=>?_)
 · refine BR hf fun x3 h6 hf=>?_; refine W 6 Z (CL Z (kE _ _ h6 ?_)); cases hf; exact N 1 Z (Y Z h)
 refine W 1 Z (AS Z (AO.aY Z Z Z Z bC Z (U 1 Z (AS Z (AO.aY Z Z Z Z bC Z (U 2 Z (AS Z (AO.aY Z Z Z Z bC Z (U 1 Z (AS Z (AO.aY Z Z Z Z bC Z ?_))))))))))); refine BR hf fun x4 h7 hf=>?_; refine U 1 Z (CL Z (kE _ _ h7 ?_)); cases hf; exact N 1 Z (Y Z h)
theorem yg (a1:Str) (b1:Str) {r0:Int} (hf:gX a1 b1=some r0) (h:Q (.ret (iP r0)) τ):PC 102 [.str a1,.str b1] τ Q:=by
 unfold gX at hf; refine BN 78 [.tmp 4] [0,1] Tryz.func102 Z Z Z Z Z (V 3 Z (LU (fun i1 tq=>[(0,.str a1),(1,.str b1),(5,iP i1),(6,iP tq)]) (fun i1 tq=>[]) (fun dh i1 tq=>dR a1 b1 dh i1 tq=some r0) BIG 0 0 Z Z hf (fun _ _ hz=>bY hz) ?_)); intro dh i1 tq hf; rw [dR] at hf; refine W 2 Z (AS Z (AO.aY Z Z Z Z bC Z (U 2 Z (AR.and 5 14 19 [0,1,5,6] (x:=(decide (tq < (b1.length:Int)))) Z Z (fun h1=>?_) (fun h1=>?_) ?_))))
 · refine Is 14 h1 Z (U 2 Z (GO Z (AO.aY Z Z Z Z bC Z ?_))); exact bW 2 Z (En [19,0,1,5,6] Z)
 · refine Is 14 h1 Z ?_; exact bW 5 Z (En [19,0,1,5,6] Z)
 refine J 0 Z (C hf Z (fun h2 hf=>?_) fun h2 hf=>?_)
 ·
  refine V 0 Z (AW.draw 16 mixed (by kernel_rfl) Z ?_); refine Ev.cs aQ 2 Z ?_; refine B1 hf fun x1 h3 hf=>Ev.cons Z Z Z (AO.bP h3 Z bC Z Z zg) (Ev.cs aQ 2 Z ?_); refine B1 hf fun x2 h4 hf=>Ev.cons Z Z Z (AO.bP h4 Z bC Z Z zg) (Ev.cs aQ 3 Z ?_); refine B1 hf fun x3 h5 hf=>Ev.cons Z Z Z (AO.bP h5 Z bC Z Z zg) (Ev.cs aQ 2 Z ?_); refine B1 hf fun x4 h6 hf=>Ev.cons Z Z Z (AO.bP h6 Z bC Z Z zg) (Ev.cs aQ 1 Z ?_); refine B1 hf fun c1 h7 hf=>Ev.cons Z Z Z (AO.call Z _ Z Z Jv (kE _ _ h7 zg)) (Ev.cs aQ 1 Z (Ev.nil ?_)); show AR _ _ _ _ _ _ _ _; refine B1 hf fun x5 h8 hf=>U 8 Z (AS Z (AO.bP h8 Z bC Z Z ?_)); refine B1 hf fun x6 h9 hf=>CL Z (pJ _ h9 ?_); refine B1 hf fun b2 h11 hf=>U 1 Z (AR.bH 5 43 48 true [0,1,5,6,7,8,9] b2 Z Z (fun h10=>?_) (fun h10=>?_) ?_)
  · refine IT 43 h10 h11 Z fun h11=>?_; refine B1 h11 fun x7 h12 h11=>U 2 Z (GO Z (AO.bP h12 Z bC Z Z ?_)); refine BR h11 fun x8 ni h11=>?_; refine GO Z (AO.call Z _ Z Z FQ (pJ _ ni ?_)); cases h11; exact bW 1 Z (En [48,0,1,5,6,7,8,9] Z)
  · refine IF 43 h10 h11 Z fun h11=>?_; cases h11; exact bW 5 Z (En [48,0,1,5,6,7,8,9] Z)
  refine J 0 Z (C hf Z (fun nI hf=>?_) fun nI hf=>?_)
  ·
   refine B1 hf fun m1 uZ hf=>W 2 Z (CL Z (y7 _ _ uZ ?_)); refine B1 hf fun n1 h16 hf=>U 2 Z (CL Z (y7 _ _ h16 (J 2 Z (AW.draw 10 mixed (by kernel_rfl) Z ?_)))); refine Ev.cs aQ 3 Z ?_; refine B1 hf fun x9 tF hf=>Ev.cons Z Z Z (AO.fC tF Z bC Z ⟨_,Z⟩ ⟨_,Z⟩ zg) (Ev.cs aQ 3 Z ?_); refine B1 hf fun Jj h18 hf=>Ev.cons Z Z Z (AO.fC h18 Z bC Z ⟨_,Z⟩ ⟨_,Z⟩ zg) ?_; refine B1 hf fun c2 h19 hf=>Ev.cons Z Z Z (AO.call Z _ Z Z Ju (Dw _ _ h19 zg)) (Ev.cs aQ 1 Z (Ev.nil ?_)); show AR _ _ _ _ _ _ _ _; refine J 2 Z (C hf Z (fun h20 hf=>?_) fun h20 hf=>?_)
   · cases hf; exact M 2 Z (Y Z h)
   exact M 4 Z ⟨m1,n1,Z,Z,Z,hf⟩
  refine V 2 Z (C hf Z (fun h21 hf=>?_) fun h21 hf=>?_)
  · cases hf; exact M 2 Z (Y Z h)
  exact M 4 Z ⟨(fJ (i1 + 1)),(fJ (tq + 1)),Z,Z,Z,hf⟩
 refine W 2 Z (AS Z (AO.aY Z Z Z Z bC Z (U 3 Z (AS Z (AO.aY Z Z Z Z bC Z ?_))))); refine BR hf fun NI h22 hf=>?_; refine U 1 Z (CL Z (kE _ _ h22 ?_)); cases hf; exact N 1 Z (Y Z h)
theorem Cy (bA:List Str) {r0:Int} (hf:mY bA=some r0) (h:Q (.ret (iP r0)) τ):PC 57 [sP bA] τ Q:=by
 unfold mY at hf; refine BN 54 [.tmp 2] [0] Tryz.func57 Z Z Z Z Z (W 2 Z (AS Z (AO.aR (l:=bA) Z Z Z Z gP Z Z (J 1 Z (C hf Z (fun h1 hf=>?_) fun h1 hf=>?_)))))
 · cases hf; exact M 1 Z (Y Z h)
 refine V 1 Z (xM (fun i1=>[(0,sP bA),(3,iP i1)]) (fun i1=>[]) (fun dh i1=>d9 bA dh i1=some r0) BIG 0 Z Z hf (fun _ hz=>bY hz) ?_); intro dh i1 hf; rw [d9] at hf; refine W 2 Z (AS Z (AO.aR (l:=bA) Z Z Z Z gP Z Z (J 1 Z (C hf Z (fun h2 hf=>?_) fun h2 hf=>?_))))
 ·
  refine B1 hf fun e1 h3 hf=>W 2 Z (AS Z (AO.bn h3 Z Z Z Z gP Z Z ?_)); refine B1 hf fun x1 h4 hf=>U 1 Z (CL Z (pI _ h4 (J 2 Z (C hf Z (fun h5 hf=>?_) fun h5 hf=>?_))))
  · cases hf; exact M 1 Z (Y Z h)
  refine V 1 Z (xM (fun tq=>[(0,sP bA),(3,iP i1),(4,iP tq)]) (fun tq=>[]) (fun L_ tq=>iF bA i1 (d9 bA dh) L_ tq=some r0) BIG 0 Z Z hf (fun _ hz=>bY hz) ?_); intro L_ tq hf; rw [iF] at hf; refine V 3 Z (C hf Z (fun h6 hf=>?_) fun h6 hf=>?_)
  ·
   refine V 0 Z (AW.draw 13 mixed (by kernel_rfl) Z ?_); refine Ev.cs aQ 2 Z ?_; refine B1 hf fun e2 h7 hf=>Ev.cons Z Z Z (AO.bn h7 Z Z Z Z gP Z Z zg) (Ev.cs aQ 1 Z ?_); refine B1 hf fun x2 h8 hf=>Ev.cons Z Z Z (AO.call Z _ Z Z FR (pI _ h8 zg)) (Ev.cs aQ 3 Z ?_); refine B1 hf fun e3 h9 hf=>Ev.cons Z Z Z (AO.bn h9 Z Z Z Z gP Z Z zg) (Ev.cs aQ 1 Z ?_); refine B1 hf fun x3 h10 hf=>Ev.cons Z Z Z (AO.call Z _ Z Z FR (pI _ h10 zg)) (Ev.cs aQ 2 Z (Ev.nil ?_)); show AR _ _ _ _ _ _ _ _; refine J 0 Z (C hf Z (fun h11 hf=>?_) fun h11 hf=>?_)
   · cases hf; exact M 1 Z (Y Z h)
   exact M 3 Z ⟨(fJ (tq + 1)),Z,Z,Z,hf⟩
  refine V 0 Z (AW.draw 15 mixed (by kernel_rfl) Z ?_); refine Ev.cs aQ 3 Z ?_; refine B1 hf fun b1 ni hf=>Ev.bH M0 12 41 53 true [0,3] (.bool b1) Z Z (fun h12=>?_) (fun h12=>?_) ?_
  ·
   replace ni:=wL h12 ni; refine Ev.is Ig 41 h12 Z (Ev.cs aQ 3 Z ?_); refine B1 ni fun e4 nI ni=>Ev.run Z Z Z Z Z Z Z (AO.bn nI Z Z Z Z gP Z Z zg) (Ev.cs aQ 3 Z ?_); refine B1 ni fun e5 uZ ni=>Ev.run Z Z Z Z Z Z Z (AO.bn uZ Z Z Z Z gP Z Z zg) (Ev.cs aQ 1 Z ?_); refine B1 ni fun x4 h16 ni=>Ev.run Z Z Z Z Z Z Z (AO.call Z _ Z Z JA (yg _ _ h16 zg)) (Ev.cs aQ 1 Z ?_); cases ni; refine Ev.cs aQ 1 Z ?_; exact Ev.nil (Less.settle (ps:=[53,0,3]) Z)
  · replace ni:=uj h12 ni; refine Ev.is Ig 41 h12 Z ?_; cases ni; refine Ev.cs aQ 12 Z ?_; exact Ev.nil (Less.settle (ps:=[53,0,3]) Z)
  refine Ev.nil ?_; show AR _ _ _ _ _ _ _ _; refine J 0 Z (C hf Z (fun tF hf=>?_) fun tF hf=>?_)
  · cases hf; exact M 1 Z (Y Z h)
  exact M 3 Z ⟨(fJ (i1 + 1)),Z,Z,Z,hf⟩
 cases hf; exact M 1 Z (Y Z h)
theorem jJ (n1:Int) (lo1:Int) (hi1:Int) {r0:Bool} (hf:gU n1 lo1 hi1=some r0) (h:Q (.ret (.bool r0)) τ):PC 58 [iP n1,iP lo1,iP hi1] τ Q:=by
 unfold gU at hf; refine BN 15 [.tmp 6] [0,1,2] Tryz.func58 Z Z Z Z Z (W 5 Z (An 4 10 14 [] (decide (n1≤hi1)) Z Z Z Z ?_)); cases hf; exact N 1 Z (Y Z h)
theorem xA (t1:Int) {r0:Bool} (hf:oW t1=some r0) (h:Q (.ret (.bool r0)) τ):PC 59 [iP t1] τ Q:=by
 unfold oW at hf; refine BN 5 [.tmp 2] [0] Tryz.func59 Z Z Z Z Z ?_; refine BR hf fun x1 h1 hf=>?_; refine W 2 Z (CL Z (jJ _ _ _ h1 ?_)); cases hf; exact N 1 Z (Y Z h)
theorem Cw (w1:av) {r0:Int} (hf:kU w1=some r0) (h:Q (.ret (iP r0)) τ):PC 24 [.agg (fE w1)] τ Q:=by
 unfold kU at hf; refine BN 99 [.tmp 2] [0] Tryz.func24 Z Z Z Z Z ?_; refine B1 hf fun x1 h1 hf=>W 4 Z (CL Z (nW _ h1 (J 1 Z (C hf Z (fun h2 hf=>?_) fun h2 hf=>?_))))
 · cases hf; exact M 1 Z (Y Z h)
 refine B1 hf fun e1 h3 hf=>W 2 Z (CL Z (Cy _ h3 (J 3 Z (C hf Z (fun h4 hf=>?_) fun h4 hf=>?_))))
 · cases hf; exact M 2 Z (Y Z h)
 refine B1 hf fun x2 h5 hf=>W 2 Z (CL Z (jJ _ _ _ h5 ?_)); refine B1 hf fun b1 h7 hf=>U 2 Z (AR.bH 5 19 24 false [1] b1 Z Z (fun h6=>?_) (fun h6=>?_) ?_)
 · refine IF 19 h6 h7 Z fun h7=>?_; refine B1 h7 fun x3 h8 h7=>U 2 Z (GO Z (AO.call Z _ Z Z FN (jJ _ _ _ h8 ?_))); cases h7; exact bW 2 Z (En [24,1] Z)
 · refine IT 19 h6 h7 Z fun h7=>?_; cases h7; exact bW 5 Z (En [24,1] Z)
 refine B1 hf fun b2 h10 hf=>U 1 Z (AR.bH 5 25 30 false [1] b2 Z Z (fun h9=>?_) (fun h9=>?_) ?_)
 · refine IF 25 h9 h10 Z fun h10=>?_; refine B1 h10 fun x4 h11 h10=>U 2 Z (GO Z (AO.call Z _ Z Z FN (jJ _ _ _ h11 ?_))); cases h10; exact bW 2 Z (En [30,1] Z)
 · refine IT 25 h9 h10 Z fun h10=>?_; cases h10; exact bW 5 Z (En [30,1] Z)
 refine B1 hf fun b3 ni hf=>U 1 Z (AR.bH 5 31 36 false [1] b3 Z Z (fun h12=>?_) (fun h12=>?_) ?_)
 · refine IF 31 h12 ni Z fun ni=>?_; refine B1 ni fun x5 nI ni=>U 2 Z (GO Z (AO.call Z _ Z Z IW (xA _ nI ?_))); cases ni; exact bW 2 Z (En [36,1] Z)
 · refine IT 31 h12 ni Z fun ni=>?_; cases ni; exact bW 5 Z (En [36,1] Z)
 refine B1 hf fun b4 h16 hf=>U 1 Z (AR.bH 5 37 42 false [1] b4 Z Z (fun uZ=>?_) (fun uZ=>?_) ?_)
 · refine IF 37 uZ h16 Z fun h16=>?_; refine B1 h16 fun x6 tF h16=>U 2 Z (GO Z (AO.call Z _ Z Z IW (xA _ tF ?_))); cases h16; exact bW 2 Z (En [42,1] Z)
 · refine IT 37 uZ h16 Z fun h16=>?_; cases h16; exact bW 5 Z (En [42,1] Z)
 refine J 0 Z (C hf Z (fun h18 hf=>?_) fun h18 hf=>?_)
 · cases hf; exact M 1 Z (Y Z h)
 refine W 4 Z (An 4 46 50 [1] (w1.phase != 2) Z Z Z Z (U 1 Z (AR.or 9 51 60 [1] (x:=((w1.phase == 2) && (!w1.bq))) Z Z (fun h20=>?_) (fun h20=>?_) ?_)))
 · refine Is 51 h20 Z (U 4 Z (An 4 55 59 [1,51] (!w1.bq) Z Z Z Z ?_)); exact bW 1 Z (En [60,1] Z)
 · refine Is 51 h20 Z ?_; exact bW 9 Z (En [60,1] Z)
 refine J 0 Z (C hf Z (fun h22 hf=>?_) fun h22 hf=>?_)
 · cases hf; exact M 1 Z (Y Z h)
 refine V 1 Z (xM (fun i1=>[(1,.ref (fE w1)),(4,iP i1)]) (fun i1=>[]) (fun dh i1=>iC w1 dh i1=some r0) BIG 0 Z Z hf (fun _ hz=>bY hz) ?_); intro dh i1 hf; rw [iC] at hf; refine W 3 Z (AS Z (AO.aR (l:=w1.tokens) Z Z Z Z kI Z Z (J 1 Z (C hf Z (fun h23 hf=>?_) fun h23 hf=>?_))))
 ·
  refine V 0 Z (AW.draw 25 mixed (by kernel_rfl) Z ?_); refine Ev.cs aQ 3 Z ?_; refine B1 hf fun e2 M7 hf=>Ev.cons Z Z Z (AO.bn M7 Z Z Z Z kI Z Z zg) (Ev.cs aQ 1 Z ?_); refine B1 hf fun x7 M6 hf=>Ev.cons Z Z Z (AO.call Z _ Z Z FN (jJ _ _ _ M6 zg)) (Ev.cs aQ 2 Z ?_); refine B1 hf fun b5 h27 hf=>Ev.bH M0 17 75 92 false [1,4] (.bool b5) Z Z (fun Ih=>?_) (fun Ih=>?_) ?_
  ·
   replace h27:=uj Ih h27; refine Ev.is Ig 75 Ih Z (Ev.cs aQ 3 Z ?_); refine BR h27 fun b6 Fj h27=>?_; refine Ev.bH Ig 13 78 91 true [1,4,75] (.bool b6) Z Z (fun JQ=>?_) (fun JQ=>?_) ?_
   · replace Fj:=wL JQ Fj; refine Ev.is Ig 78 JQ Z (Ev.cs aQ 4 Z ?_); refine B1 Fj fun e3 M5 Fj=>Ev.run Z Z Z Z Z Z Z (AO.bn M5 Z Z Z Z kI Z Z zg) (Ev.cs aQ 4 Z ?_); refine B1 Fj fun e4 h31 Fj=>Ev.run Z Z Z Z Z Z Z (AO.bn h31 Z Z Z Z kI Z Z zg) (Ev.cs aQ 2 Z ?_); cases Fj; refine Ev.cs aQ 1 Z ?_; exact Ev.nil (Less.settle (ps:=[91,1,4,75]) Z)
   · replace Fj:=uj JQ Fj; refine Ev.is Ig 78 JQ Z ?_; cases Fj; refine Ev.cs aQ 13 Z ?_; exact Ev.nil (Less.settle (ps:=[91,1,4,75]) Z)
   cases h27; refine Ev.cs aQ 1 Z ?_; exact Ev.nil (Less.settle (ps:=[92,1,4]) Z)
  · replace h27:=wL Ih h27; refine Ev.is Ig 75 Ih Z ?_; cases h27; refine Ev.cs aQ 17 Z ?_; exact Ev.nil (Less.settle (ps:=[92,1,4]) Z)
  refine Ev.nil ?_; show AR _ _ _ _ _ _ _ _; refine J 0 Z (C hf Z (fun h32 hf=>?_) fun h32 hf=>?_)
  · cases hf; exact M 1 Z (Y Z h)
  exact M 3 Z ⟨(fJ (i1 + 1)),Z,Z,Z,hf⟩
 refine W 2 Z (AS Z (AO.aR (l:=w1.tokens) Z Z Z Z kI Z Z (J 3 Z (C hf Z (fun Lh hf=>?_) fun Lh hf=>?_))))
 · cases hf; exact M 1 Z (Y Z h)
 cases hf; exact M 1 Z (Y Z h)
theorem E5 (w1:av) (eZ:Int) {r0:aX} {r1:Int} (hf:rP w1 eZ=some (r0,r1)) (h:Q (.ret (.tuple [.agg (qb r0),iP r1])) τ):PC 8 [.agg (fE w1),iP eZ] τ Q:=by
 unfold rP at hf; refine BN 29 [.cell 4 29,.tmp 5] [0,1] Tryz.func8 Z Z Z Z Z (W 1 Z (AS Z (AO.dn Z DI (fun b4=>?_)))); refine B1 hf fun x1 h1 hf=>U 2 Z (CL Z (nU _ h1 ?_)); refine B1 hf fun e1 h2 hf=>CL Z (Cw _ h2 (U 4 Z (AR.and 7 12 19 [1,2,4,6] (x:=((decide (eZ < 0)) || (decide (1125899906842624 < eZ)))) Z Z (fun h3=>?_) (fun h3=>?_) ?_)))
 · refine Is 12 h3 Z (U 3 Z (On 3 15 18 [1,2,4,6,12] (decide (1125899906842624 < eZ)) Z Z Z Z ?_)); exact bW 1 Z (En [19,1,2,4,6] Z)
 · refine Is 12 h3 Z ?_; exact bW 7 Z (En [19,1,2,4,6] Z)
 refine J 0 Z (C hf Z (fun h5 hf=>?_) fun h5 hf=>?_)
 ·
  refine V 3 Z (C hf Z (fun h6 hf=>?_) fun h6 hf=>?_)
  · cases hf; exact Wx 4 [0] Z Z (ZC [0] Z Z h)
  refine B1 hf fun x2 h7 hf=>W 1 Z (CL Z (nU _ h7 ?_)); cases hf; exact Rx 5 [0] Z Z (ZC [0] Z Z h)
 refine V 2 Z (C hf Z (fun h8 hf=>?_) fun h8 hf=>?_)
 · cases hf; exact Wx 4 [0] Z Z (ZC [0] Z Z h)
 refine B1 hf fun x3 h9 hf=>W 1 Z (CL Z (nU _ h9 ?_)); cases hf; exact Rx 5 [0] Z Z (ZC [0] Z Z h)
theorem Cv (a1:List Str) (b1:List Str) {r0:Bool} (hf:mW a1 b1=some r0) (h:Q (.ret (.bool r0)) τ):PC 60 [sP a1,sP b1] τ Q:=by
 unfold mW at hf; refine BN 26 [.tmp 4] [0,1] Tryz.func60 Z Z Z Z Z (W 2 Z (AS Z (AO.aR (l:=a1) Z Z Z Z gP Z Z (U 1 Z (AS Z (AO.aR (l:=b1) Z Z Z Z gP Z Z (J 1 Z (C hf Z (fun h1 hf=>?_) fun h1 hf=>?_))))))))
 · cases hf; exact M 1 Z (Y Z h)
 refine V 1 Z (xM (fun i1=>[(0,sP a1),(1,sP b1),(5,iP i1)]) (fun i1=>[]) (fun dh i1=>fV a1 b1 dh i1=some r0) BIG 0 Z Z hf (fun _ hz=>bY hz) ?_); intro dh i1 hf; rw [fV] at hf; refine W 2 Z (AS Z (AO.aR (l:=a1) Z Z Z Z gP Z Z (J 1 Z (C hf Z (fun h2 hf=>?_) fun h2 hf=>?_))))
 ·
  refine V 0 Z (AW.draw 9 mixed (by kernel_rfl) Z ?_); refine Ev.cs aQ 2 Z ?_; refine B1 hf fun e1 h3 hf=>Ev.cons Z Z Z (AO.bn h3 Z Z Z Z gP Z Z zg) (Ev.cs aQ 3 Z ?_); refine B1 hf fun e2 h4 hf=>Ev.cons Z Z Z (AO.bn h4 Z Z Z Z gP Z Z zg) (Ev.cs aQ 2 Z (Ev.nil ?_)); show AR _ _ _ _ _ _ _ _; refine J 0 Z (C hf Z (fun h5 hf=>?_) fun h5 hf=>?_)
  · cases hf; exact M 1 Z (Y Z h)
  exact M 3 Z ⟨(fJ (i1 + 1)),Z,Z,Z,hf⟩
 cases hf; exact M 1 Z (Y Z h)
theorem yc (a1:List Int) (b1:List Int) {r0:Bool} (hf:kg a1 b1=some r0) (h:Q (.ret (.bool r0)) τ):PC 61 [.list (List.map jr a1),.list (List.map jr b1)] τ Q:=by
 unfold kg at hf; refine BN 26 [.tmp 4] [0,1] Tryz.func61 Z Z Z Z Z (W 2 Z (AS Z (AO.aR (l:=a1) Z Z Z Z kI Z Z (U 1 Z (AS Z (AO.aR (l:=b1) Z Z Z Z kI Z Z (J 1 Z (C hf Z (fun h1 hf=>?_) fun h1 hf=>?_))))))))
 · cases hf; exact M 1 Z (Y Z h)
 refine V 1 Z (xM (fun i1=>[(0,.list (List.map jr a1)),(1,.list (List.map jr b1)),(5,iP i1)]) (fun i1=>[]) (fun dh i1=>fM a1 b1 dh i1=some r0) BIG 0 Z Z hf (fun _ hz=>bY hz) ?_); intro dh i1 hf; rw [fM] at hf; refine W 2 Z (AS Z (AO.aR (l:=a1) Z Z Z Z kI Z Z (J 1 Z (C hf Z (fun h2 hf=>?_) fun h2 hf=>?_))))
 ·
  refine V 0 Z (AW.draw 9 mixed (by kernel_rfl) Z ?_); refine Ev.cs aQ 2 Z ?_; refine B1 hf fun e1 h3 hf=>Ev.cons Z Z Z (AO.bn h3 Z Z Z Z kI Z Z zg) (Ev.cs aQ 3 Z ?_); refine B1 hf fun e2 h4 hf=>Ev.cons Z Z Z (AO.bn h4 Z Z Z Z kI Z Z zg) (Ev.cs aQ 2 Z (Ev.nil ?_)); show AR _ _ _ _ _ _ _ _; refine J 0 Z (C hf Z (fun h5 hf=>?_) fun h5 hf=>?_)
  · cases hf; exact M 1 Z (Y Z h)
  exact M 3 Z ⟨(fJ (i1 + 1)),Z,Z,Z,hf⟩
 cases hf; exact M 1 Z (Y Z h)
theorem Du (a1:av) (b1:av) {r0:Bool} (hf:rQ a1 b1=some r0) (h:Q (.ret (.bool r0)) τ):PC 26 [.agg (fE a1),.agg (fE b1)] τ Q:=by
 unfold rQ at hf; refine BN 66 [.tmp 4] [0,1] Tryz.func26 Z Z Z Z Z ?_; refine B1 hf fun b2 h2 hf=>W 9 Z (AR.bH 6 10 16 true [2,3] b2 Z Z (fun h1=>?_) (fun h1=>?_) ?_)
 · refine IT 10 h1 h2 Z fun h2=>?_; refine BR h2 fun x1 h3 h2=>?_; refine U 4 Z (GO Z (AO.call Z _ Z Z KV (Cv _ _ h3 ?_))); cases h2; exact bW 1 Z (En [16,2,3] Z)
 · refine IF 10 h1 h2 Z fun h2=>?_; cases h2; exact bW 6 Z (En [16,2,3] Z)
 refine U 1 Z (An 6 17 23 [2,3] (a1.trust == b1.trust) Z Z Z Z (U 1 Z (An 6 24 30 [2,3] (a1.slots == b1.slots) Z Z Z Z (U 1 Z (AR.and 6 31 37 [2,3] (x:=(a1.bq == b1.bq)) Z Z (fun h6=>?_) (fun h6=>?_) ?_)))))
 · refine Is 31 h6 Z (U 4 Z (GO Z (AO.su Z Jl Z Z ?_))); exact bW 1 Z (En [37,2,3] Z)
 · refine Is 31 h6 Z ?_; exact bW 6 Z (En [37,2,3] Z)
 refine U 1 Z (An 6 38 44 [2,3] (a1.phase == b1.phase) Z Z Z Z (U 1 Z (An 6 45 51 [2,3] (a1.jv == b1.jv) Z Z Z Z (U 1 Z (An 6 52 58 [2,3] (a1.dw == b1.dw) Z Z Z Z ?_))))); refine BR hf fun b3 h11 hf=>?_; refine U 1 Z (AR.bH 6 59 65 true [] b3 Z Z (fun h10=>?_) (fun h10=>?_) ?_)
 · refine IT 59 h10 h11 Z fun h11=>?_; refine BR h11 fun x2 h12 h11=>?_; refine U 4 Z (GO Z (AO.call Z _ Z Z KU (yc _ _ h12 ?_))); cases h11; exact bW 1 Z (En [65] Z)
 · refine IF 59 h10 h11 Z fun h11=>?_; cases h11; exact bW 6 Z (En [65] Z)
 cases hf; exact N 1 Z (Y Z h)
theorem nV (a1:List Str) (b1:List Str) {r0:Bool} (hf:mZ a1 b1=some r0) (h:Q (.ret (.bool r0)) τ):PC 107 [sP a1,sP b1] τ Q:=by
 unfold mZ at hf; refine BN 26 [.tmp 4] [0,1] Tryz.func107 Z Z Z Z Z (W 2 Z (AS Z (AO.aR (l:=a1) Z Z Z Z gP Z Z (U 1 Z (AS Z (AO.aR (l:=b1) Z Z Z Z gP Z Z (J 1 Z (C hf Z (fun h1 hf=>?_) fun h1 hf=>?_))))))))
 · cases hf; exact M 1 Z (Y Z h)
 refine V 1 Z (xM (fun i1=>[(0,sP a1),(1,sP b1),(5,iP i1)]) (fun i1=>[]) (fun dh i1=>mh a1 b1 dh i1=some r0) BIG 0 Z Z hf (fun _ hz=>bY hz) ?_); intro dh i1 hf; rw [mh] at hf; refine W 2 Z (AS Z (AO.aR (l:=a1) Z Z Z Z gP Z Z (J 1 Z (C hf Z (fun h2 hf=>?_) fun h2 hf=>?_))))
 ·
  refine V 0 Z (AW.draw 9 mixed (by kernel_rfl) Z ?_); refine Ev.cs aQ 2 Z ?_; refine B1 hf fun e1 h3 hf=>Ev.cons Z Z Z (AO.bn h3 Z Z Z Z gP Z Z zg) (Ev.cs aQ 3 Z ?_); refine B1 hf fun e2 h4 hf=>Ev.cons Z Z Z (AO.bn h4 Z Z Z Z gP Z Z zg) (Ev.cs aQ 2 Z (Ev.nil ?_)); show AR _ _ _ _ _ _ _ _; refine J 0 Z (C hf Z (fun h5 hf=>?_) fun h5 hf=>?_)
  · cases hf; exact M 1 Z (Y Z h)
  exact M 3 Z ⟨(fJ (i1 + 1)),Z,Z,Z,hf⟩
 cases hf; exact M 1 Z (Y Z h)
theorem Cu (a1:aF) (b1:aF) {r0:Bool} (hf:sO a1 b1=some r0) (h:Q (.ret (.bool r0)) τ):PC 65 [.agg (wE a1),.agg (wE b1)] τ Q:=by
 unfold sO at hf; refine BN 38 [.tmp 4] [0,1] Tryz.func65 Z Z Z Z Z (W 9 Z (An 6 10 16 [2,3] (a1.text == b1.text) Z Z Z Z (U 1 Z (An 6 17 23 [2,3] (a1.level == b1.level) Z Z Z Z ?_)))); refine B1 hf fun b2 h4 hf=>U 1 Z (AR.bH 6 24 30 true [2,3] b2 Z Z (fun h3=>?_) (fun h3=>?_) ?_)
 · refine IT 24 h3 h4 Z fun h4=>?_; refine BR h4 fun x1 h5 h4=>?_; refine U 4 Z (GO Z (AO.call Z _ Z Z zB (nV _ _ h5 ?_))); cases h4; exact bW 1 Z (En [30,2,3] Z)
 · refine IF 24 h3 h4 Z fun h4=>?_; cases h4; exact bW 6 Z (En [30,2,3] Z)
 refine BR hf fun b3 h7 hf=>?_; refine U 1 Z (AR.bH 6 31 37 true [] b3 Z Z (fun h6=>?_) (fun h6=>?_) ?_)
 · refine IT 31 h6 h7 Z fun h7=>?_; refine BR h7 fun x2 h8 h7=>?_; refine U 4 Z (GO Z (AO.call Z _ Z Z zB (nV _ _ h8 ?_))); cases h7; exact bW 1 Z (En [37] Z)
 · refine IF 31 h6 h7 Z fun h7=>?_; cases h7; exact bW 6 Z (En [37] Z)
 cases hf; exact N 1 Z (Y Z h)
theorem Dr (a1:List aF) (b1:List aF) {r0:Bool} (hf:vV a1 b1=some r0) (h:Q (.ret (.bool r0)) τ):PC 142 [.list (List.map aF.cells a1),.list (List.map aF.cells b1)] τ Q:=by
 unfold vV at hf; refine BN 27 [.tmp 4] [0,1] Tryz.func142 Z Z Z Z Z (W 2 Z (AS Z (AO.aR (l:=a1) Z Z Z Z Cj Z Z (U 1 Z (AS Z (AO.aR (l:=b1) Z Z Z Z Cj Z Z (J 1 Z (C hf Z (fun h1 hf=>?_) fun h1 hf=>?_))))))))
 · cases hf; exact M 1 Z (Y Z h)
 refine V 1 Z (xM (fun i1=>[(0,.list (List.map aF.cells a1)),(1,.list (List.map aF.cells b1)),(5,iP i1)]) (fun i1=>[]) (fun dh i1=>l9 a1 b1 dh i1=some r0) BIG 0 Z Z hf (fun _ hz=>bY hz) ?_); intro dh i1 hf; rw [l9] at hf; refine W 2 Z (AS Z (AO.aR (l:=a1) Z Z Z Z Cj Z Z (J 1 Z (C hf Z (fun h2 hf=>?_) fun h2 hf=>?_))))
 ·
  refine V 0 Z (AW.draw 10 mixed (by kernel_rfl) Z ?_); refine Ev.cs aQ 2 Z ?_; refine B1 hf fun e1 h3 hf=>Ev.cons Z Z Z (AO.bn h3 Z Z Z Z Cj (aF.au _) Z zg) (Ev.cs aQ 3 Z ?_); refine B1 hf fun e2 h4 hf=>Ev.cons Z Z Z (AO.bn h4 Z Z Z Z Cj (aF.au _) Z zg) (Ev.cs aQ 1 Z ?_); refine B1 hf fun x1 h5 hf=>Ev.cons Z Z Z (AO.call Z _ Z Z KS (Cu _ _ h5 zg)) (Ev.cs aQ 1 Z (Ev.nil ?_)); show AR _ _ _ _ _ _ _ _; refine J 0 Z (C hf Z (fun h6 hf=>?_) fun h6 hf=>?_)
  · cases hf; exact M 1 Z (Y Z h)
  exact M 3 Z ⟨(fJ (i1 + 1)),Z,Z,Z,hf⟩
 cases hf; exact M 1 Z (Y Z h)
theorem mM (a1:List ah) (b1:List ah) {r0:Bool} (hf:j_ a1 b1=some r0) (h:Q (.ret (.bool r0)) τ):PC 108 [.list (List.map ah.cells a1),.list (List.map ah.cells b1)] τ Q:=by
 unfold j_ at hf; refine BN 26 [.tmp 4] [0,1] Tryz.func108 Z Z Z Z Z (W 2 Z (AS Z (AO.aR (l:=a1) Z Z Z Z Cm Z Z (U 1 Z (AS Z (AO.aR (l:=b1) Z Z Z Z Cm Z Z (J 1 Z (C hf Z (fun h1 hf=>?_) fun h1 hf=>?_))))))))
 · cases hf; exact M 1 Z (Y Z h)
 refine V 1 Z (xM (fun i1=>[(0,.list (List.map ah.cells a1)),(1,.list (List.map ah.cells b1)),(5,iP i1)]) (fun i1=>[]) (fun dh i1=>jB a1 b1 dh i1=some r0) BIG 0 Z Z hf (fun _ hz=>bY hz) ?_); intro dh i1 hf; rw [jB] at hf; refine W 2 Z (AS Z (AO.aR (l:=a1) Z Z Z Z Cm Z Z (J 1 Z (C hf Z (fun h2 hf=>?_) fun h2 hf=>?_))))
 ·
  refine V 0 Z (AW.draw 9 mixed (by kernel_rfl) Z ?_); refine Ev.cs aQ 2 Z ?_; refine B1 hf fun e1 h3 hf=>Ev.cons Z Z Z (AO.bn h3 Z Z Z Z Cm (ah.au _) Z zg) (Ev.cs aQ 3 Z ?_); refine B1 hf fun e2 h4 hf=>Ev.cons Z Z Z (AO.bn h4 Z Z Z Z Cm (ah.au _) Z zg) (Ev.cs aQ 1 Z (Ev.cons Z Z Z (AO.nu Z J4 Z Z (Io e1 e2) Z zg) (Ev.nil ?_))); show AR _ _ _ _ _ _ _ _; refine J 0 Z (C hf Z (fun h5 hf=>?_) fun h5 hf=>?_)
  · cases hf; exact M 1 Z (Y Z h)
  exact M 3 Z ⟨(fJ (i1 + 1)),Z,Z,Z,hf⟩
 cases hf; exact M 1 Z (Y Z h)
theorem qG (a1:List aC) (b1:List aC) {r0:Bool} (hf:l8 a1 b1=some r0) (h:Q (.ret (.bool r0)) τ):PC 143 [.list (List.map aC.cells a1),.list (List.map aC.cells b1)] τ Q:=by
 unfold l8 at hf; refine BN 26 [.tmp 4] [0,1] Tryz.func143 Z Z Z Z Z (W 2 Z (AS Z (AO.aR (l:=a1) Z Z Z Z Ci Z Z (U 1 Z (AS Z (AO.aR (l:=b1) Z Z Z Z Ci Z Z (J 1 Z (C hf Z (fun h1 hf=>?_) fun h1 hf=>?_))))))))
 · cases hf; exact M 1 Z (Y Z h)
 refine V 1 Z (xM (fun i1=>[(0,.list (List.map aC.cells a1)),(1,.list (List.map aC.cells b1)),(5,iP i1)]) (fun i1=>[]) (fun dh i1=>jC a1 b1 dh i1=some r0) BIG 0 Z Z hf (fun _ hz=>bY hz) ?_); intro dh i1 hf; rw [jC] at hf; refine W 2 Z (AS Z (AO.aR (l:=a1) Z Z Z Z Ci Z Z (J 1 Z (C hf Z (fun h2 hf=>?_) fun h2 hf=>?_))))
 ·
  refine V 0 Z (AW.draw 9 mixed (by kernel_rfl) Z ?_); refine Ev.cs aQ 2 Z ?_; refine B1 hf fun e1 h3 hf=>Ev.cons Z Z Z (AO.bn h3 Z Z Z Z Ci (aC.au _) Z zg) (Ev.cs aQ 3 Z ?_); refine B1 hf fun e2 h4 hf=>Ev.cons Z Z Z (AO.bn h4 Z Z Z Z Ci (aC.au _) Z zg) (Ev.cs aQ 1 Z (Ev.cons Z Z Z (AO.nu Z Lu Z Z (JX e1 e2) Z zg) (Ev.nil ?_))); show AR _ _ _ _ _ _ _ _; refine J 0 Z (C hf Z (fun h5 hf=>?_) fun h5 hf=>?_)
  · cases hf; exact M 1 Z (Y Z h)
  exact M 3 Z ⟨(fJ (i1 + 1)),Z,Z,Z,hf⟩
 cases hf; exact M 1 Z (Y Z h)
theorem xZ (a1:List aH) (b1:List aH) {r0:Bool} (hf:oV a1 b1=some r0) (h:Q (.ret (.bool r0)) τ):PC 144 [.list (List.map aH.cells a1),.list (List.map aH.cells b1)] τ Q:=by
 unfold oV at hf; refine BN 26 [.tmp 4] [0,1] Tryz.func144 Z Z Z Z Z (W 2 Z (AS Z (AO.aR (l:=a1) Z Z Z Z Ch Z Z (U 1 Z (AS Z (AO.aR (l:=b1) Z Z Z Z Ch Z Z (J 1 Z (C hf Z (fun h1 hf=>?_) fun h1 hf=>?_))))))))
 · cases hf; exact M 1 Z (Y Z h)
 refine V 1 Z (xM (fun i1=>[(0,.list (List.map aH.cells a1)),(1,.list (List.map aH.cells b1)),(5,iP i1)]) (fun i1=>[]) (fun dh i1=>jD a1 b1 dh i1=some r0) BIG 0 Z Z hf (fun _ hz=>bY hz) ?_); intro dh i1 hf; rw [jD] at hf; refine W 2 Z (AS Z (AO.aR (l:=a1) Z Z Z Z Ch Z Z (J 1 Z (C hf Z (fun h2 hf=>?_) fun h2 hf=>?_))))
 ·
  refine V 0 Z (AW.draw 9 mixed (by kernel_rfl) Z ?_); refine Ev.cs aQ 2 Z ?_; refine B1 hf fun e1 h3 hf=>Ev.cons Z Z Z (AO.bn h3 Z Z Z Z Ch (aH.au _) Z zg) (Ev.cs aQ 3 Z ?_); refine B1 hf fun e2 h4 hf=>Ev.cons Z Z Z (AO.bn h4 Z Z Z Z Ch (aH.au _) Z zg) (Ev.cs aQ 1 Z (Ev.cons Z Z Z (AO.nu Z J3 Z Z (Im e1 e2) Z zg) (Ev.nil ?_))); show AR _ _ _ _ _ _ _ _; refine J 0 Z (C hf Z (fun h5 hf=>?_) fun h5 hf=>?_)
  · cases hf; exact M 1 Z (Y Z h)
  exact M 3 Z ⟨(fJ (i1 + 1)),Z,Z,Z,hf⟩
 cases hf; exact M 1 Z (Y Z h)
theorem Dm (a1:aI) (b1:aI) {r0:Bool} (hf:vS a1 b1=some r0) (h:Q (.ret (.bool r0)) τ):PC 103 [.agg (pz a1),.agg (pz b1)] τ Q:=by
 unfold vS at hf; refine BN 79 [.tmp 4] [0,1] Tryz.func103 Z Z Z Z Z (W 7 Z (AS Z (AO.nu Z Ls Z Z (JW a1.bQ b1.bQ) Z (U 1 Z (An 8 10 18 [2,3] (a1.job.iD == b1.job.iD) Z Z Z Z (U 1 Z (AR.and 10 19 29 [2,3] (x:=((a1.job.steps.length:Int) == (b1.job.steps.length:Int))) Z Z (fun h2=>?_) (fun h2=>?_) ?_)))))))
 · refine Is 19 h2 Z (U 3 Z (GO Z (AO.aR (l:=a1.job.steps) Z Z Z Z I_ Z Z (U 3 Z (GO Z (AO.aR (l:=b1.job.steps) Z Z Z Z I_ Z Z ?_)))))); exact bW 2 Z (En [29,2,3] Z)
 · refine Is 19 h2 Z ?_; exact bW 10 Z (En [29,2,3] Z)
 refine U 1 Z (AR.and 6 30 36 [2,3] (x:=(aM.Bo a1.origin b1.origin)) Z Z (fun h3=>?_) (fun h3=>?_) ?_)
 · refine Is 30 h3 Z (U 4 Z (GO Z (AO.nu Z Lv Z Z (JY a1.origin b1.origin) Z ?_))); exact bW 1 Z (En [36,2,3] Z)
 · refine Is 30 h3 Z ?_; exact bW 6 Z (En [36,2,3] Z)
 refine B1 hf fun b2 h5 hf=>U 1 Z (AR.bH 6 37 43 true [2,3] b2 Z Z (fun h4=>?_) (fun h4=>?_) ?_)
 · refine IT 37 h4 h5 Z fun h5=>?_; refine BR h5 fun x1 h6 h5=>?_; refine U 4 Z (GO Z (AO.call Z _ Z Z Jt (Dr _ _ h6 ?_))); cases h5; exact bW 1 Z (En [43,2,3] Z)
 · refine IF 37 h4 h5 Z fun h5=>?_; cases h5; exact bW 6 Z (En [43,2,3] Z)
 refine B1 hf fun b3 h8 hf=>U 1 Z (AR.bH 6 44 50 true [2,3] b3 Z Z (fun h7=>?_) (fun h7=>?_) ?_)
 · refine IT 44 h7 h8 Z fun h8=>?_; refine BR h8 fun x2 h9 h8=>?_; refine U 4 Z (GO Z (AO.call Z _ Z Z CY (mM _ _ h9 ?_))); cases h8; exact bW 1 Z (En [50,2,3] Z)
 · refine IF 44 h7 h8 Z fun h8=>?_; cases h8; exact bW 6 Z (En [50,2,3] Z)
 refine B1 hf fun b4 h11 hf=>U 1 Z (AR.bH 6 51 57 true [2,3] b4 Z Z (fun h10=>?_) (fun h10=>?_) ?_)
 · refine IT 51 h10 h11 Z fun h11=>?_; refine BR h11 fun x3 h12 h11=>?_; refine U 4 Z (GO Z (AO.call Z _ Z Z FP (qG _ _ h12 ?_))); cases h11; exact bW 1 Z (En [57,2,3] Z)
 · refine IF 51 h10 h11 Z fun h11=>?_; cases h11; exact bW 6 Z (En [57,2,3] Z)
 refine B1 hf fun b5 nI hf=>U 1 Z (AR.bH 6 58 64 true [2,3] b5 Z Z (fun ni=>?_) (fun ni=>?_) ?_)
 · refine IT 58 ni nI Z fun nI=>?_; refine BR nI fun x4 uZ nI=>?_; refine U 4 Z (GO Z (AO.call Z _ Z Z zB (nV _ _ uZ ?_))); cases nI; exact bW 1 Z (En [64,2,3] Z)
 · refine IF 58 ni nI Z fun nI=>?_; cases nI; exact bW 6 Z (En [64,2,3] Z)
 refine B1 hf fun b6 tF hf=>U 1 Z (AR.bH 6 65 71 true [2,3] b6 Z Z (fun h16=>?_) (fun h16=>?_) ?_)
 · refine IT 65 h16 tF Z fun tF=>?_; refine BR tF fun x5 h18 tF=>?_; refine U 4 Z (GO Z (AO.call Z _ Z Z Js (xZ _ _ h18 ?_))); cases tF; exact bW 1 Z (En [71,2,3] Z)
 · refine IF 65 h16 tF Z fun tF=>?_; cases tF; exact bW 6 Z (En [71,2,3] Z)
 refine BR hf fun b7 h20 hf=>?_; refine U 1 Z (AR.bH 6 72 78 true [] b7 Z Z (fun h19=>?_) (fun h19=>?_) ?_)
 · refine IT 72 h19 h20 Z fun h20=>?_; refine BR h20 fun x6 h21 h20=>?_; refine U 4 Z (GO Z (AO.call Z _ Z Z zB (nV _ _ h21 ?_))); cases h20; exact bW 1 Z (En [78] Z)
 · refine IF 72 h19 h20 Z fun h20=>?_; cases h20; exact bW 6 Z (En [78] Z)
 cases hf; exact N 1 Z (Y Z h)
theorem Dt (a1:List ak) (b1:List ak) {r0:Bool} (hf:vW a1 b1=some r0) (h:Q (.ret (.bool r0)) τ):PC 109 [.list (List.map ak.cells a1),.list (List.map ak.cells b1)] τ Q:=by
 unfold vW at hf; refine BN 26 [.tmp 4] [0,1] Tryz.func109 Z Z Z Z Z (W 2 Z (AS Z (AO.aR (l:=a1) Z Z Z Z Ck Z Z (U 1 Z (AS Z (AO.aR (l:=b1) Z Z Z Z Ck Z Z (J 1 Z (C hf Z (fun h1 hf=>?_) fun h1 hf=>?_))))))))
 · cases hf; exact M 1 Z (Y Z h)
 refine V 1 Z (xM (fun i1=>[(0,.list (List.map ak.cells a1)),(1,.list (List.map ak.cells b1)),(5,iP i1)]) (fun i1=>[]) (fun dh i1=>mg a1 b1 dh i1=some r0) BIG 0 Z Z hf (fun _ hz=>bY hz) ?_); intro dh i1 hf; rw [mg] at hf; refine W 2 Z (AS Z (AO.aR (l:=a1) Z Z Z Z Ck Z Z (J 1 Z (C hf Z (fun h2 hf=>?_) fun h2 hf=>?_))))
 ·
  refine V 0 Z (AW.draw 9 mixed (by kernel_rfl) Z ?_); refine Ev.cs aQ 2 Z ?_; refine B1 hf fun e1 h3 hf=>Ev.cons Z Z Z (AO.bn h3 Z Z Z Z Ck (ak.au _) Z zg) (Ev.cs aQ 3 Z ?_); refine B1 hf fun e2 h4 hf=>Ev.cons Z Z Z (AO.bn h4 Z Z Z Z Ck (ak.au _) Z zg) (Ev.cs aQ 1 Z (Ev.cons Z Z Z (AO.nu Z J2 Z Z (Il e1 e2) Z zg) (Ev.nil ?_))); show AR _ _ _ _ _ _ _ _; refine J 0 Z (C hf Z (fun h5 hf=>?_) fun h5 hf=>?_)
  · cases hf; exact M 1 Z (Y Z h)
  exact M 3 Z ⟨(fJ (i1 + 1)),Z,Z,Z,hf⟩
 cases hf; exact M 1 Z (Y Z h)
theorem xY (a1:aS) (b1:aS) {r0:Bool} (hf:oU a1 b1=some r0) (h:Q (.ret (.bool r0)) τ):PC 66 [.agg (wF a1),.agg (wF b1)] τ Q:=by
 unfold oU at hf; refine BN 45 [.tmp 4] [0,1] Tryz.func66 Z Z Z Z Z (W 9 Z (An 6 10 16 [2,3] (a1.eD == b1.eD) Z Z Z Z (U 1 Z (An 6 17 23 [2,3] (a1.child == b1.child) Z Z Z Z ?_)))); refine B1 hf fun b2 h4 hf=>U 1 Z (AR.bH 6 24 30 true [2,3] b2 Z Z (fun h3=>?_) (fun h3=>?_) ?_)
 · refine IT 24 h3 h4 Z fun h4=>?_; refine BR h4 fun x1 h5 h4=>?_; refine U 4 Z (GO Z (AO.call Z _ Z Z CY (mM _ _ h5 ?_))); cases h4; exact bW 1 Z (En [30,2,3] Z)
 · refine IF 24 h3 h4 Z fun h4=>?_; cases h4; exact bW 6 Z (En [30,2,3] Z)
 refine B1 hf fun b3 h7 hf=>U 1 Z (AR.bH 6 31 37 true [2,3] b3 Z Z (fun h6=>?_) (fun h6=>?_) ?_)
 · refine IT 31 h6 h7 Z fun h7=>?_; refine BR h7 fun x2 h8 h7=>?_; refine U 4 Z (GO Z (AO.call Z _ Z Z CY (mM _ _ h8 ?_))); cases h7; exact bW 1 Z (En [37,2,3] Z)
 · refine IF 31 h6 h7 Z fun h7=>?_; cases h7; exact bW 6 Z (En [37,2,3] Z)
 refine BR hf fun b4 h10 hf=>?_; refine U 1 Z (AR.bH 6 38 44 true [] b4 Z Z (fun h9=>?_) (fun h9=>?_) ?_)
 · refine IT 38 h9 h10 Z fun h10=>?_; refine BR h10 fun x3 h11 h10=>?_; refine U 4 Z (GO Z (AO.call Z _ Z Z Jy (Dt _ _ h11 ?_))); cases h10; exact bW 1 Z (En [44] Z)
 · refine IF 38 h9 h10 Z fun h10=>?_; cases h10; exact bW 6 Z (En [44] Z)
 cases hf; exact N 1 Z (Y Z h)
theorem Dq (a1:bB) (b1:bB) {r0:Bool} (hf:vU a1 b1=some r0) (h:Q (.ret (.bool r0)) τ):PC 104 [.agg (wG a1),.agg (wG b1)] τ Q:=by
 unfold vU at hf; refine BN 31 [.tmp 4] [0,1] Tryz.func104 Z Z Z Z Z (W 9 Z (An 6 10 16 [2,3] (a1.time == b1.time) Z Z Z Z ?_)); refine B1 hf fun b2 h3 hf=>U 1 Z (AR.bH 6 17 23 true [2,3] b2 Z Z (fun h2=>?_) (fun h2=>?_) ?_)
 · refine IT 17 h2 h3 Z fun h3=>?_; refine BR h3 fun x1 h4 h3=>?_; refine U 4 Z (GO Z (AO.call Z _ Z Z FP (qG _ _ h4 ?_))); cases h3; exact bW 1 Z (En [23,2,3] Z)
 · refine IF 17 h2 h3 Z fun h3=>?_; cases h3; exact bW 6 Z (En [23,2,3] Z)
 refine BR hf fun b3 h6 hf=>?_; refine U 1 Z (AR.bH 6 24 30 true [] b3 Z Z (fun h5=>?_) (fun h5=>?_) ?_)
 · refine IT 24 h5 h6 Z fun h6=>?_; refine BR h6 fun x2 h7 h6=>?_; refine U 4 Z (GO Z (AO.call Z _ Z Z KR (xY _ _ h7 ?_))); cases h6; exact bW 1 Z (En [30] Z)
 · refine IF 24 h5 h6 Z fun h6=>?_; cases h6; exact bW 6 Z (En [30] Z)
 cases hf; exact N 1 Z (Y Z h)
theorem Dn (a1:aV) (b1:aV) {r0:Bool} (hf:vT a1 b1=some r0) (h:Q (.ret (.bool r0)) τ):PC 62 [.agg (BX a1),.agg (BX b1)] τ Q:=by
 unfold vT at hf; refine BN 45 [.tmp 4] [0,1] Tryz.func62 Z Z Z Z Z ?_; refine B1 hf fun x1 h1 hf=>W 7 Z (CL Z (Dm _ _ h1 (U 1 Z (An 6 10 16 [2,3] (a1.began == b1.began) Z Z Z Z (U 1 Z (An 6 17 23 [2,3] (a1.done == b1.done) Z Z Z Z (U 1 Z (An 6 24 30 [2,3] (a1.sent == b1.sent) Z Z Z Z ?_)))))))); refine U 1 Z (An 6 31 37 [2,3] (a1.saved == b1.saved) Z Z Z Z ?_); refine BR hf fun b2 h7 hf=>?_; refine U 1 Z (AR.bH 6 38 44 true [] b2 Z Z (fun h6=>?_) (fun h6=>?_) ?_)
 · refine IT 38 h6 h7 Z fun h7=>?_; refine BR h7 fun x2 h8 h7=>?_; refine U 4 Z (GO Z (AO.call Z _ Z Z Jz (Dq _ _ h8 ?_))); cases h7; exact bW 1 Z (En [44] Z)
 · refine IF 38 h6 h7 Z fun h7=>?_; cases h7; exact bW 6 Z (En [44] Z)
 cases hf; exact N 1 Z (Y Z h)
theorem Ct (a1:List aV) (b1:List aV) {r0:Bool} (hf:mV a1 b1=some r0) (h:Q (.ret (.bool r0)) τ):PC 27 [.list (List.map aV.cells a1),.list (List.map aV.cells b1)] τ Q:=by
 unfold mV at hf; refine BN 27 [.tmp 4] [0,1] Tryz.func27 Z Z Z Z Z (W 2 Z (AS Z (AO.aR (l:=a1) Z Z Z Z Cn Z Z (U 1 Z (AS Z (AO.aR (l:=b1) Z Z Z Z Cn Z Z (J 1 Z (C hf Z (fun h1 hf=>?_) fun h1 hf=>?_))))))))
 · cases hf; exact M 1 Z (Y Z h)
 refine V 1 Z (xM (fun i1=>[(0,.list (List.map aV.cells a1)),(1,.list (List.map aV.cells b1)),(5,iP i1)]) (fun i1=>[]) (fun dh i1=>iB a1 b1 dh i1=some r0) BIG 0 Z Z hf (fun _ hz=>bY hz) ?_); intro dh i1 hf; rw [iB] at hf; refine W 2 Z (AS Z (AO.aR (l:=a1) Z Z Z Z Cn Z Z (J 1 Z (C hf Z (fun h2 hf=>?_) fun h2 hf=>?_))))
 ·
  refine V 0 Z (AW.draw 10 mixed (by kernel_rfl) Z ?_); refine Ev.cs aQ 2 Z ?_; refine B1 hf fun e1 h3 hf=>Ev.cons Z Z Z (AO.bn h3 Z Z Z Z Cn (aV.au _) Z zg) (Ev.cs aQ 3 Z ?_); refine B1 hf fun e2 h4 hf=>Ev.cons Z Z Z (AO.bn h4 Z Z Z Z Cn (aV.au _) Z zg) (Ev.cs aQ 1 Z ?_); refine B1 hf fun x1 h5 hf=>Ev.cons Z Z Z (AO.call Z _ Z Z KT (Dn _ _ h5 zg)) (Ev.cs aQ 1 Z (Ev.nil ?_)); show AR _ _ _ _ _ _ _ _; refine J 0 Z (C hf Z (fun h6 hf=>?_) fun h6 hf=>?_)
  · cases hf; exact M 1 Z (Y Z h)
  exact M 3 Z ⟨(fJ (i1 + 1)),Z,Z,Z,hf⟩
 cases hf; exact M 1 Z (Y Z h)
theorem Dp (a1:aX) (b1:aX) {r0:Bool} (hf:j6 a1 b1=some r0) (h:Q (.ret (.bool r0)) τ):PC 9 [.agg (qb a1),.agg (qb b1)] τ Q:=by
 unfold j6 at hf; refine BN 52 [.tmp 4] [0,1] Tryz.func9 Z Z Z Z Z ?_; refine B1 hf fun x1 h1 hf=>W 7 Z (CL Z (Du _ _ h1 (U 1 Z (AR.and 6 10 16 [2,3] (x:=(a1.up == b1.up)) Z Z (fun h2=>?_) (fun h2=>?_) ?_))))
 · refine Is 10 h2 Z (U 4 Z (GO Z (AO.su Z Jl Z Z ?_))); exact bW 1 Z (En [16,2,3] Z)
 · refine Is 10 h2 Z ?_; exact bW 6 Z (En [16,2,3] Z)
 refine U 1 Z (AR.and 6 17 23 [2,3] (x:=(a1.joined == b1.joined)) Z Z (fun h3=>?_) (fun h3=>?_) ?_)
 · refine Is 17 h3 Z (U 4 Z (GO Z (AO.su Z Jl Z Z ?_))); exact bW 1 Z (En [23,2,3] Z)
 · refine Is 17 h3 Z ?_; exact bW 6 Z (En [23,2,3] Z)
 refine U 1 Z (An 6 24 30 [2,3] (a1.jv == b1.jv) Z Z Z Z (U 1 Z (An 6 31 37 [2,3] (a1.heard == b1.heard) Z Z Z Z (U 1 Z (An 6 38 44 [2,3] (a1.dw == b1.dw) Z Z Z Z ?_))))); refine BR hf fun b2 h8 hf=>?_; refine U 1 Z (AR.bH 6 45 51 true [] b2 Z Z (fun h7=>?_) (fun h7=>?_) ?_)
 · refine IT 45 h7 h8 Z fun h8=>?_; refine BR h8 fun x2 h9 h8=>?_; refine U 4 Z (GO Z (AO.call Z _ Z Z KW (Ct _ _ h9 ?_))); cases h8; exact bW 1 Z (En [51] Z)
 · refine IF 45 h7 h8 Z fun h8=>?_; cases h8; exact bW 6 Z (En [51] Z)
 cases hf; exact N 1 Z (Y Z h)
section
variable [Hf]
theorem sj (w1:av) (eZ:Int) {r0:Bool} (hf:iW w1 eZ=some r0) (h:Q (.ret (.bool r0)) τ):PC 3 [.agg (fE w1),iP eZ] τ Q:=by
 unfold iW at hf; refine BN 37 [.tmp 4] [0,1] Tryz.func3 Z Z Z Z Z (W 4 Z (AS Z (AO.aR (l:=w1.labels) Z Z Z Z gP Z Z (J 1 Z (C hf Z (fun h1 hf=>?_) fun h1 hf=>?_)))))
 · refine BR hf fun x1 h2 hf=>?_; refine W 0 Z (CL Z (uz  h2 ?_)); cases hf; exact N 1 Z (Y Z h)
 obtain ⟨x2,e1,h3,hf⟩:=jo hf; refine W 2 Z (CL Z (CB _ _ h3 (U 3 Z (AS Z (AO.dn Z DI (fun b5=>?_)))))); obtain ⟨x3,f1,h4,hf⟩:=jo hf; refine Rr 4 [0] Z Z (CL Z (E5 _ _ h4 (U 3 Z (AS Z (AO.dn Z DI (fun b7=>?_)))))); refine B1 hf fun x4 h5 hf=>Rr 4 [0,1,0] Z Z (CL Z (Dp _ _ h5 (U 1 Z (An 4 29 33 [] (e1 == f1) Z Z Z Z ?_)))); refine BR hf fun b1 h8 hf=>?_; refine U 1 Z (AR.bH 2 34 36 true [] b1 Z Z (fun h7=>?_) (fun h7=>?_) ?_)
 · refine IT 34 h7 h8 Z fun h8=>?_; refine BR h8 fun x5 h9 h8=>?_; refine GO Z (AO.call Z _ Z Z MF (uz  h9 ?_)); cases h8; exact bW 1 Z (En [36] Z)
 · refine IF 34 h7 h8 Z fun h8=>?_; cases h8; exact bW 2 Z (En [36] Z)
 cases hf; exact N 1 Z (Y Z h)
end
end Go.Proofs.YtdgljcpjcgldfaaGreatDoor
