/- Proved here: each function does what its functional text says (part 1). -/
import Derived.Test.YtdgljcpjcgldfaaGreatDoorAgA3
import Derived.Test.YtdgljcpjcgldfaaGreatDoorAgFt1
import Derived.Test.YtdgljcpjcgldfaaGreatDoorProg
import Derived.KernelRfl
set_option linter.unusedVariables false
set_option linter.unusedSimpArgs false
set_option linter.unusedSectionVars false
namespace Go.Ft
open Go Go.Abs
mutual
def aD.cells :aD→List PV
  | ⟨a0,a1,a2,a3,a4,a5⟩=>[.int .i64 a0,.bool a1,.int .i64 a2,.str a3,.list (aD.bW a4),.list (List.map aY a5)]
def aD.bW :List aD→List (List PV)
  | []=>[]
  | x :: xs=>aD.cells x :: aD.bW xs
end
theorem aD.ay (x:aD):aD.cells x=[.int .i64 x.kind,.bool x.jK,.int .i64 x.mJ,.str x.mh,.list (aD.bW x.jr),.list (List.map aY x.keys)]:=by cases x; rfl
theorem aD.jS :∀ l:List aD,aD.bW l=l.map aD.cells
  | []=>rfl
  | _ :: l=>congrArg _ (aD.jS l)
def aD.FM (l:List aD):List PV:=[.list (aD.bW l)]
theorem aD.bI (x:aD):(aD.cells x).length=6:=by rw [aD.ay]; rfl
theorem aD.cells_one (x:aD):(aD.cells x).all PV.one=true:=by rw [aD.ay]; rfl
mutual
def aL.cells :aL→List PV
  | ⟨a0,a1,a2,a3,a4⟩=>[.int .i64 a0,.str a1,.int .i64 a2.kind,.bool a2.jK,.int .i64 a2.mJ,.str a2.mh,.list (aD.bW a2.jr),.list (List.map aY a2.keys),.list (aL.bW a3),.list (List.map aY a4)]
def aL.bW :List aL→List (List PV)
  | []=>[]
  | x :: xs=>aL.cells x :: aL.bW xs
end
theorem aL.ay (x:aL):aL.cells x=[.int .i64 x.kind,.str x.name,.int .i64 x.value.kind,.bool x.value.jK,.int .i64 x.value.mJ,.str x.value.mh,.list (aD.bW x.value.jr),.list (List.map aY x.value.keys),.list (aL.bW x.args),.list (List.map aY x.keys)]:=by cases x; rfl
theorem aL.jS :∀ l:List aL,aL.bW l=l.map aL.cells
  | []=>rfl
  | _ :: l=>congrArg _ (aL.jS l)
def aL.FM (l:List aL):List PV:=[.list (aL.bW l)]
theorem aL.bI (x:aL):(aL.cells x).length=10:=by rw [aL.ay]; rfl
theorem aL.cells_one (x:aL):(aL.cells x).all PV.one=true:=by rw [aL.ay]; rfl
@[reducible] def aX.cells (x:aX):List PV:=[.str x.name,.int .i64 x.value.kind,.bool x.value.jK,.int .i64 x.value.mJ,.str x.value.mh,.list (aD.bW x.value.jr),.list (List.map aY x.value.keys)]
theorem aX.ay (x:aX):aX.cells x=[.str x.name,.int .i64 x.value.kind,.bool x.value.jK,.int .i64 x.value.mJ,.str x.value.mh,.list (aD.bW x.value.jr),.list (List.map aY x.value.keys)]:=rfl
theorem aX.bI (x:aX):(aX.cells x).length=7:=by rw [aX.ay]; rfl
theorem aX.cells_one (x:aX):(aX.cells x).all PV.one=true:=by rw [aX.ay]; rfl
@[reducible] def aQ.cells (x:aQ):List PV:=[.int .i64 x.op,.str x.name,.str x.text,.int .i64 x.n]
theorem aQ.ay (x:aQ):aQ.cells x=[.int .i64 x.op,.str x.name,.str x.text,.int .i64 x.n]:=rfl
theorem aQ.bI (x:aQ):(aQ.cells x).length=4:=by rw [aQ.ay]; rfl
theorem aQ.cells_one (x:aQ):(aQ.cells x).all PV.one=true:=by rw [aQ.ay]; rfl
@[reducible] def bD.cells (x:bD):List PV:=[.int .i64 x.max,.list (List.map je x.classes),.int .i64 x.base,.int .i64 x.cap]
theorem bD.ay (x:bD):bD.cells x=[.int .i64 x.max,.list (List.map je x.classes),.int .i64 x.base,.int .i64 x.cap]:=rfl
theorem bD.bI (x:bD):(bD.cells x).length=4:=by rw [bD.ay]; rfl
theorem bD.cells_one (x:bD):(bD.cells x).all PV.one=true:=by rw [bD.ay]; rfl
@[reducible] def aB.cells (x:aB):List PV:=[.str x.key,.list (List.map aY x.restore),.list (List.map aY x.files)]
theorem aB.ay (x:aB):aB.cells x=[.str x.key,.list (List.map aY x.restore),.list (List.map aY x.files)]:=rfl
theorem aB.bI (x:aB):(aB.cells x).length=3:=by rw [aB.ay]; rfl
theorem aB.cells_one (x:aB):(aB.cells x).all PV.one=true:=by rw [aB.ay]; rfl
@[reducible] def aR.cells (x:aR):List PV:=[.int .i64 x.dK,.list (List.map aY x.dJ),.int .i64 x.iE]
theorem aR.ay (x:aR):aR.cells x=[.int .i64 x.dK,.list (List.map aY x.dJ),.int .i64 x.iE]:=rfl
theorem aR.bI (x:aR):(aR.cells x).length=3:=by rw [aR.ay]; rfl
theorem aR.cells_one (x:aR):(aR.cells x).all PV.one=true:=by rw [aR.ay]; rfl
@[reducible] def bN.cells (x:bN):List PV:=[.str x.iD,.list (List.map aY x.needs),.int .i64 x.when.kind,.str x.when.name,.int .i64 x.when.value.kind,.bool x.when.value.jK,.int .i64 x.when.value.mJ,.str x.when.value.mh,.list (aD.bW x.when.value.jr),.list (List.map aY x.when.value.keys),.list (aL.bW x.when.args),.list (List.map aY x.when.keys),.list (List.map aX.cells x.vars),.list (List.map aQ.cells x.steps),.list (List.map aY x.labels),.str x.group,.int .i64 x.policy,.int .i64 x.priority,.int .i64 x.cost,.int .i64 x.timeout,.int .i64 x.retry.max,.list (List.map je x.retry.classes),.int .i64 x.retry.base,.int .i64 x.retry.cap,.list (List.map aY x.inputs),.list (List.map aY x.uses),.list (List.map aY x.outputs),.list (List.map aB.cells x.caches),.list (List.map aY x.bB),.str x.environment,.bool x.jV,.int .i64 x.gate.dK,.list (List.map aY x.gate.dJ),.int .i64 x.gate.iE,.list (List.map aY x.tests),.int .i64 x.lN,.int .i64 x.jA,.bool x.gT,.bool x.child]
theorem bN.ay (x:bN):bN.cells x=[.str x.iD,.list (List.map aY x.needs),.int .i64 x.when.kind,.str x.when.name,.int .i64 x.when.value.kind,.bool x.when.value.jK,.int .i64 x.when.value.mJ,.str x.when.value.mh,.list (aD.bW x.when.value.jr),.list (List.map aY x.when.value.keys),.list (aL.bW x.when.args),.list (List.map aY x.when.keys),.list (List.map aX.cells x.vars),.list (List.map aQ.cells x.steps),.list (List.map aY x.labels),.str x.group,.int .i64 x.policy,.int .i64 x.priority,.int .i64 x.cost,.int .i64 x.timeout,.int .i64 x.retry.max,.list (List.map je x.retry.classes),.int .i64 x.retry.base,.int .i64 x.retry.cap,.list (List.map aY x.inputs),.list (List.map aY x.uses),.list (List.map aY x.outputs),.list (List.map aB.cells x.caches),.list (List.map aY x.bB),.str x.environment,.bool x.jV,.int .i64 x.gate.dK,.list (List.map aY x.gate.dJ),.int .i64 x.gate.iE,.list (List.map aY x.tests),.int .i64 x.lN,.int .i64 x.jA,.bool x.gT,.bool x.child]:=rfl
theorem bN.bI (x:bN):(bN.cells x).length=39:=by rw [bN.ay]; rfl
theorem bN.cells_one (x:bN):(bN.cells x).all PV.one=true:=by rw [bN.ay]; rfl
@[reducible] def ak.cells (x:ak):List PV:=[.str x.name,.str x.text,.int .i64 x.level,.list (List.map aY x.refs),.list (List.map aY x.environments)]
theorem ak.ay (x:ak):ak.cells x=[.str x.name,.str x.text,.int .i64 x.level,.list (List.map aY x.refs),.list (List.map aY x.environments)]:=rfl
theorem ak.bI (x:ak):(ak.cells x).length=5:=by rw [ak.ay]; rfl
theorem ak.cells_one (x:ak):(ak.cells x).all PV.one=true:=by rw [ak.ay]; rfl
@[reducible] def bf.cells (x:bf):List PV:=[.str x.path,.int .u64 (x.digest.toNat:Int)]
theorem bf.ay (x:bf):bf.cells x=[.str x.path,.int .u64 (x.digest.toNat:Int)]:=rfl
theorem bf.bI (x:bf):(bf.cells x).length=2:=by rw [bf.ay]; rfl
theorem bf.cells_one (x:bf):(bf.cells x).all PV.one=true:=by rw [bf.ay]; rfl
@[reducible] def aj.cells (x:aj):List PV:=[.str x.name,.int .u64 (x.digest.toNat:Int),.int .i64 x.size]
theorem aj.ay (x:aj):aj.cells x=[.str x.name,.int .u64 (x.digest.toNat:Int),.int .i64 x.size]:=rfl
theorem aj.bI (x:aj):(aj.cells x).length=3:=by rw [aj.ay]; rfl
theorem aj.cells_one (x:aj):(aj.cells x).all PV.one=true:=by rw [aj.ay]; rfl
@[reducible] def aT.cells (x:aT):List PV:=[.str x.project,.int .i64 x.trust,.str x.ref]
theorem aT.ay (x:aT):aT.cells x=[.str x.project,.int .i64 x.trust,.str x.ref]:=rfl
theorem aT.bI (x:aT):(aT.cells x).length=3:=by rw [aT.ay]; rfl
theorem aT.cells_one (x:aT):(aT.cells x).all PV.one=true:=by rw [aT.ay]; rfl
@[reducible] def av.cells (x:av):List PV:=[.str x.scope.project,.int .i64 x.scope.trust,.str x.scope.ref,.str x.key,.int .u64 (x.digest.toNat:Int),.int .i64 x.size,.int .i64 x.created,.int .i64 x.used]
theorem av.ay (x:av):av.cells x=[.str x.scope.project,.int .i64 x.scope.trust,.str x.scope.ref,.str x.key,.int .u64 (x.digest.toNat:Int),.int .i64 x.size,.int .i64 x.created,.int .i64 x.used]:=rfl
theorem av.bI (x:av):(av.cells x).length=8:=by rw [av.ay]; rfl
theorem av.cells_one (x:av):(av.cells x).all PV.one=true:=by rw [av.ay]; rfl
@[reducible] def aA.cells (x:aA):List PV:=[.str x.name,.int .i64 x.time]
theorem aA.ay (x:aA):aA.cells x=[.str x.name,.int .i64 x.time]:=rfl
theorem aA.bI (x:aA):(aA.cells x).length=2:=by rw [aA.ay]; rfl
theorem aA.cells_one (x:aA):(aA.cells x).all PV.one=true:=by rw [aA.ay]; rfl
@[reducible] def dn.cells (x:dn):List PV:=[.list (List.map bf.cells x.files),.list (List.map aj.cells x.artifacts),.list (List.map ak.cells x.bB),.list (List.map av.cells x.caches),.list (List.map aY x.keys),.list (List.map aY x.tests),.list (List.map aA.cells x.times),.list (List.map aY x.ignored),.int .i64 x.attempt]
theorem dn.ay (x:dn):dn.cells x=[.list (List.map bf.cells x.files),.list (List.map aj.cells x.artifacts),.list (List.map ak.cells x.bB),.list (List.map av.cells x.caches),.list (List.map aY x.keys),.list (List.map aY x.tests),.list (List.map aA.cells x.times),.list (List.map aY x.ignored),.int .i64 x.attempt]:=rfl
theorem dn.bI (x:dn):(dn.cells x).length=9:=by rw [dn.ay]; rfl
theorem dn.cells_one (x:dn):(dn.cells x).all PV.one=true:=by rw [dn.ay]; rfl
@[reducible] def aK.cells (x:aK):List PV:=[.str x.run,.str x.job]
theorem aK.ay (x:aK):aK.cells x=[.str x.run,.str x.job]:=rfl
theorem aK.bI (x:aK):(aK.cells x).length=2:=by rw [aK.ay]; rfl
theorem aK.cells_one (x:aK):(aK.cells x).all PV.one=true:=by rw [aK.ay]; rfl
@[reducible] def bn.cells (x:bn):List PV:=[.int .i64 x.token,.str x.ref.run,.str x.ref.job,.int .i64 x.attempt,.str x.worker,.int .i64 x.granted,.int .i64 x.expires]
theorem bn.ay (x:bn):bn.cells x=[.int .i64 x.token,.str x.ref.run,.str x.ref.job,.int .i64 x.attempt,.str x.worker,.int .i64 x.granted,.int .i64 x.expires]:=rfl
theorem bn.bI (x:bn):(bn.cells x).length=7:=by rw [bn.ay]; rfl
theorem bn.cells_one (x:bn):(bn.cells x).all PV.one=true:=by rw [bn.ay]; rfl
@[reducible] def aG.cells (x:aG):List PV:=[.str x.project,.str x.ref,.bool x.fork]
theorem aG.ay (x:aG):aG.cells x=[.str x.project,.str x.ref,.bool x.fork]:=rfl
theorem aG.bI (x:aG):(aG.cells x).length=3:=by rw [aG.ay]; rfl
theorem aG.cells_one (x:aG):(aG.cells x).all PV.one=true:=by rw [aG.ay]; rfl
@[reducible] def aC.cells (x:aC):List PV:=[.int .i64 x.bQ.token,.str x.bQ.ref.run,.str x.bQ.ref.job,.int .i64 x.bQ.attempt,.str x.bQ.worker,.int .i64 x.bQ.granted,.int .i64 x.bQ.expires,.str x.job.iD,.list (List.map aY x.job.needs),.int .i64 x.job.when.kind,.str x.job.when.name,.int .i64 x.job.when.value.kind,.bool x.job.when.value.jK,.int .i64 x.job.when.value.mJ,.str x.job.when.value.mh,.list (aD.bW x.job.when.value.jr),.list (List.map aY x.job.when.value.keys),.list (aL.bW x.job.when.args),.list (List.map aY x.job.when.keys),.list (List.map aX.cells x.job.vars),.list (List.map aQ.cells x.job.steps),.list (List.map aY x.job.labels),.str x.job.group,.int .i64 x.job.policy,.int .i64 x.job.priority,.int .i64 x.job.cost,.int .i64 x.job.timeout,.int .i64 x.job.retry.max,.list (List.map je x.job.retry.classes),.int .i64 x.job.retry.base,.int .i64 x.job.retry.cap,.list (List.map aY x.job.inputs),.list (List.map aY x.job.uses),.list (List.map aY x.job.outputs),.list (List.map aB.cells x.job.caches),.list (List.map aY x.job.bB),.str x.job.environment,.bool x.job.jV,.int .i64 x.job.gate.dK,.list (List.map aY x.job.gate.dJ),.int .i64 x.job.gate.iE,.list (List.map aY x.job.tests),.int .i64 x.job.lN,.int .i64 x.job.jA,.bool x.job.gT,.bool x.job.child,.str x.origin.project,.str x.origin.ref,.bool x.origin.fork,.list (List.map ak.cells x.bB),.list (List.map aj.cells x.artifacts),.list (List.map av.cells x.entries),.list (List.map aY x.tests),.list (List.map aA.cells x.times),.list (List.map aY x.ignored)]
theorem aC.ay (x:aC):aC.cells x=[.int .i64 x.bQ.token,.str x.bQ.ref.run,.str x.bQ.ref.job,.int .i64 x.bQ.attempt,.str x.bQ.worker,.int .i64 x.bQ.granted,.int .i64 x.bQ.expires,.str x.job.iD,.list (List.map aY x.job.needs),.int .i64 x.job.when.kind,.str x.job.when.name,.int .i64 x.job.when.value.kind,.bool x.job.when.value.jK,.int .i64 x.job.when.value.mJ,.str x.job.when.value.mh,.list (aD.bW x.job.when.value.jr),.list (List.map aY x.job.when.value.keys),.list (aL.bW x.job.when.args),.list (List.map aY x.job.when.keys),.list (List.map aX.cells x.job.vars),.list (List.map aQ.cells x.job.steps),.list (List.map aY x.job.labels),.str x.job.group,.int .i64 x.job.policy,.int .i64 x.job.priority,.int .i64 x.job.cost,.int .i64 x.job.timeout,.int .i64 x.job.retry.max,.list (List.map je x.job.retry.classes),.int .i64 x.job.retry.base,.int .i64 x.job.retry.cap,.list (List.map aY x.job.inputs),.list (List.map aY x.job.uses),.list (List.map aY x.job.outputs),.list (List.map aB.cells x.job.caches),.list (List.map aY x.job.bB),.str x.job.environment,.bool x.job.jV,.int .i64 x.job.gate.dK,.list (List.map aY x.job.gate.dJ),.int .i64 x.job.gate.iE,.list (List.map aY x.job.tests),.int .i64 x.job.lN,.int .i64 x.job.jA,.bool x.job.gT,.bool x.job.child,.str x.origin.project,.str x.origin.ref,.bool x.origin.fork,.list (List.map ak.cells x.bB),.list (List.map aj.cells x.artifacts),.list (List.map av.cells x.entries),.list (List.map aY x.tests),.list (List.map aA.cells x.times),.list (List.map aY x.ignored)]:=rfl
theorem aC.bI (x:aC):(aC.cells x).length=55:=by rw [aC.ay]; rfl
theorem aC.cells_one (x:aC):(aC.cells x).all PV.one=true:=by rw [aC.ay]; rfl
@[reducible] def aI.cells (x:aI):List PV:=[.str x.iD,.list (List.map aY x.labels),.int .i64 x.trust,.int .i64 x.slots,.bool x.cu,.int .i64 x.phase,.int .i64 x.gu,.int .i64 x.bR,.list (List.map je x.tokens)]
theorem aI.ay (x:aI):aI.cells x=[.str x.iD,.list (List.map aY x.labels),.int .i64 x.trust,.int .i64 x.slots,.bool x.cu,.int .i64 x.phase,.int .i64 x.gu,.int .i64 x.bR,.list (List.map je x.tokens)]:=rfl
theorem aI.bI (x:aI):(aI.cells x).length=9:=by rw [aI.ay]; rfl
theorem aI.cells_one (x:aI):(aI.cells x).all PV.one=true:=by rw [aI.ay]; rfl
@[reducible] def ah.cells (x:ah):List PV:=[.str x.name,.int .i64 x.status,.int .i64 x.time]
theorem ah.ay (x:ah):ah.cells x=[.str x.name,.int .i64 x.status,.int .i64 x.time]:=rfl
theorem ah.bI (x:ah):(ah.cells x).length=3:=by rw [ah.ay]; rfl
theorem ah.cells_one (x:ah):(ah.cells x).all PV.one=true:=by rw [ah.ay]; rfl
@[reducible] def aJ.cells (x:aJ):List PV:=[.int .i64 x.status,.int .i64 x.bU,.list (List.map aj.cells x.inputs),.list (List.map aj.cells x.outputs),.list (List.map ah.cells x.tests),.str x.child]
theorem aJ.ay (x:aJ):aJ.cells x=[.int .i64 x.status,.int .i64 x.bU,.list (List.map aj.cells x.inputs),.list (List.map aj.cells x.outputs),.list (List.map ah.cells x.tests),.str x.child]:=rfl
theorem aJ.bI (x:aJ):(aJ.cells x).length=6:=by rw [aJ.ay]; rfl
theorem aJ.cells_one (x:aJ):(aJ.cells x).all PV.one=true:=by rw [aJ.ay]; rfl
@[reducible] def aU.cells (x:aU):List PV:=[.int .i64 x.result.status,.int .i64 x.result.bU,.list (List.map aj.cells x.result.inputs),.list (List.map aj.cells x.result.outputs),.list (List.map ah.cells x.result.tests),.str x.result.child,.str x.log,.int .i64 x.time,.list (List.map av.cells x.saves)]
theorem aU.ay (x:aU):aU.cells x=[.int .i64 x.result.status,.int .i64 x.result.bU,.list (List.map aj.cells x.result.inputs),.list (List.map aj.cells x.result.outputs),.list (List.map ah.cells x.result.tests),.str x.result.child,.str x.log,.int .i64 x.time,.list (List.map av.cells x.saves)]:=rfl
theorem aU.bI (x:aU):(aU.cells x).length=9:=by rw [aU.ay]; rfl
theorem aU.cells_one (x:aU):(aU.cells x).all PV.one=true:=by rw [aU.ay]; rfl
@[reducible] def aF.cells (x:aF):List PV:=[.int .i64 x.work.bQ.token,.str x.work.bQ.ref.run,.str x.work.bQ.ref.job,.int .i64 x.work.bQ.attempt,.str x.work.bQ.worker,.int .i64 x.work.bQ.granted,.int .i64 x.work.bQ.expires,.str x.work.job.iD,.list (List.map aY x.work.job.needs),.int .i64 x.work.job.when.kind,.str x.work.job.when.name,.int .i64 x.work.job.when.value.kind,.bool x.work.job.when.value.jK,.int .i64 x.work.job.when.value.mJ,.str x.work.job.when.value.mh,.list (aD.bW x.work.job.when.value.jr),.list (List.map aY x.work.job.when.value.keys),.list (aL.bW x.work.job.when.args),.list (List.map aY x.work.job.when.keys),.list (List.map aX.cells x.work.job.vars),.list (List.map aQ.cells x.work.job.steps),.list (List.map aY x.work.job.labels),.str x.work.job.group,.int .i64 x.work.job.policy,.int .i64 x.work.job.priority,.int .i64 x.work.job.cost,.int .i64 x.work.job.timeout,.int .i64 x.work.job.retry.max,.list (List.map je x.work.job.retry.classes),.int .i64 x.work.job.retry.base,.int .i64 x.work.job.retry.cap,.list (List.map aY x.work.job.inputs),.list (List.map aY x.work.job.uses),.list (List.map aY x.work.job.outputs),.list (List.map aB.cells x.work.job.caches),.list (List.map aY x.work.job.bB),.str x.work.job.environment,.bool x.work.job.jV,.int .i64 x.work.job.gate.dK,.list (List.map aY x.work.job.gate.dJ),.int .i64 x.work.job.gate.iE,.list (List.map aY x.work.job.tests),.int .i64 x.work.job.lN,.int .i64 x.work.job.jA,.bool x.work.job.gT,.bool x.work.job.child,.str x.work.origin.project,.str x.work.origin.ref,.bool x.work.origin.fork,.list (List.map ak.cells x.work.bB),.list (List.map aj.cells x.work.artifacts),.list (List.map av.cells x.work.entries),.list (List.map aY x.work.tests),.list (List.map aA.cells x.work.times),.list (List.map aY x.work.ignored),.int .i64 x.began,.int .i64 x.done,.int .i64 x.effect.result.status,.int .i64 x.effect.result.bU,.list (List.map aj.cells x.effect.result.inputs),.list (List.map aj.cells x.effect.result.outputs),.list (List.map ah.cells x.effect.result.tests),.str x.effect.result.child,.str x.effect.log,.int .i64 x.effect.time,.list (List.map av.cells x.effect.saves),.int .i64 x.sent,.int .i64 x.saved]
theorem aF.ay (x:aF):aF.cells x=[.int .i64 x.work.bQ.token,.str x.work.bQ.ref.run,.str x.work.bQ.ref.job,.int .i64 x.work.bQ.attempt,.str x.work.bQ.worker,.int .i64 x.work.bQ.granted,.int .i64 x.work.bQ.expires,.str x.work.job.iD,.list (List.map aY x.work.job.needs),.int .i64 x.work.job.when.kind,.str x.work.job.when.name,.int .i64 x.work.job.when.value.kind,.bool x.work.job.when.value.jK,.int .i64 x.work.job.when.value.mJ,.str x.work.job.when.value.mh,.list (aD.bW x.work.job.when.value.jr),.list (List.map aY x.work.job.when.value.keys),.list (aL.bW x.work.job.when.args),.list (List.map aY x.work.job.when.keys),.list (List.map aX.cells x.work.job.vars),.list (List.map aQ.cells x.work.job.steps),.list (List.map aY x.work.job.labels),.str x.work.job.group,.int .i64 x.work.job.policy,.int .i64 x.work.job.priority,.int .i64 x.work.job.cost,.int .i64 x.work.job.timeout,.int .i64 x.work.job.retry.max,.list (List.map je x.work.job.retry.classes),.int .i64 x.work.job.retry.base,.int .i64 x.work.job.retry.cap,.list (List.map aY x.work.job.inputs),.list (List.map aY x.work.job.uses),.list (List.map aY x.work.job.outputs),.list (List.map aB.cells x.work.job.caches),.list (List.map aY x.work.job.bB),.str x.work.job.environment,.bool x.work.job.jV,.int .i64 x.work.job.gate.dK,.list (List.map aY x.work.job.gate.dJ),.int .i64 x.work.job.gate.iE,.list (List.map aY x.work.job.tests),.int .i64 x.work.job.lN,.int .i64 x.work.job.jA,.bool x.work.job.gT,.bool x.work.job.child,.str x.work.origin.project,.str x.work.origin.ref,.bool x.work.origin.fork,.list (List.map ak.cells x.work.bB),.list (List.map aj.cells x.work.artifacts),.list (List.map av.cells x.work.entries),.list (List.map aY x.work.tests),.list (List.map aA.cells x.work.times),.list (List.map aY x.work.ignored),.int .i64 x.began,.int .i64 x.done,.int .i64 x.effect.result.status,.int .i64 x.effect.result.bU,.list (List.map aj.cells x.effect.result.inputs),.list (List.map aj.cells x.effect.result.outputs),.list (List.map ah.cells x.effect.result.tests),.str x.effect.result.child,.str x.effect.log,.int .i64 x.effect.time,.list (List.map av.cells x.effect.saves),.int .i64 x.sent,.int .i64 x.saved]:=rfl
theorem aF.bI (x:aF):(aF.cells x).length=68:=by rw [aF.ay]; rfl
theorem aF.cells_one (x:aF):(aF.cells x).all PV.one=true:=by rw [aF.ay]; rfl
@[reducible] def aH.cells (x:aH):List PV:=[.str x.worker.iD,.list (List.map aY x.worker.labels),.int .i64 x.worker.trust,.int .i64 x.worker.slots,.bool x.worker.cu,.int .i64 x.worker.phase,.int .i64 x.worker.gu,.int .i64 x.worker.bR,.list (List.map je x.worker.tokens),.bool x.up,.bool x.joined,.int .i64 x.gu,.int .i64 x.heard,.int .i64 x.bR,.list (List.map aF.cells x.tasks)]
theorem aH.ay (x:aH):aH.cells x=[.str x.worker.iD,.list (List.map aY x.worker.labels),.int .i64 x.worker.trust,.int .i64 x.worker.slots,.bool x.worker.cu,.int .i64 x.worker.phase,.int .i64 x.worker.gu,.int .i64 x.worker.bR,.list (List.map je x.worker.tokens),.bool x.up,.bool x.joined,.int .i64 x.gu,.int .i64 x.heard,.int .i64 x.bR,.list (List.map aF.cells x.tasks)]:=rfl
theorem aH.bI (x:aH):(aH.cells x).length=15:=by rw [aH.ay]; rfl
theorem aH.cells_one (x:aH):(aH.cells x).all PV.one=true:=by rw [aH.ay]; rfl
@[reducible] def au.cells (x:au):List PV:=[.int .i64 x.kind,.str x.name,.str x.ref.run,.str x.ref.job,.int .i64 x.n,.int .i64 x.token,.int .i64 x.bU,.str x.text,.str x.origin.project,.str x.origin.ref,.bool x.origin.fork,.list (List.map aX.cells x.args),.str x.worker.iD,.list (List.map aY x.worker.labels),.int .i64 x.worker.trust,.int .i64 x.worker.slots,.bool x.worker.cu,.int .i64 x.worker.phase,.int .i64 x.worker.gu,.int .i64 x.worker.bR,.list (List.map je x.worker.tokens),.str x.secret.name,.str x.secret.text,.int .i64 x.secret.level,.list (List.map aY x.secret.refs),.list (List.map aY x.secret.environments),.str x.entry.scope.project,.int .i64 x.entry.scope.trust,.str x.entry.scope.ref,.str x.entry.key,.int .u64 (x.entry.digest.toNat:Int),.int .i64 x.entry.size,.int .i64 x.entry.created,.int .i64 x.entry.used,.int .i64 x.result.status,.int .i64 x.result.bU,.list (List.map aj.cells x.result.inputs),.list (List.map aj.cells x.result.outputs),.list (List.map ah.cells x.result.tests),.str x.result.child]
theorem au.ay (x:au):au.cells x=[.int .i64 x.kind,.str x.name,.str x.ref.run,.str x.ref.job,.int .i64 x.n,.int .i64 x.token,.int .i64 x.bU,.str x.text,.str x.origin.project,.str x.origin.ref,.bool x.origin.fork,.list (List.map aX.cells x.args),.str x.worker.iD,.list (List.map aY x.worker.labels),.int .i64 x.worker.trust,.int .i64 x.worker.slots,.bool x.worker.cu,.int .i64 x.worker.phase,.int .i64 x.worker.gu,.int .i64 x.worker.bR,.list (List.map je x.worker.tokens),.str x.secret.name,.str x.secret.text,.int .i64 x.secret.level,.list (List.map aY x.secret.refs),.list (List.map aY x.secret.environments),.str x.entry.scope.project,.int .i64 x.entry.scope.trust,.str x.entry.scope.ref,.str x.entry.key,.int .u64 (x.entry.digest.toNat:Int),.int .i64 x.entry.size,.int .i64 x.entry.created,.int .i64 x.entry.used,.int .i64 x.result.status,.int .i64 x.result.bU,.list (List.map aj.cells x.result.inputs),.list (List.map aj.cells x.result.outputs),.list (List.map ah.cells x.result.tests),.str x.result.child]:=rfl
theorem au.bI (x:au):(au.cells x).length=40:=by rw [au.ay]; rfl
theorem au.cells_one (x:au):(au.cells x).all PV.one=true:=by rw [au.ay]; rfl
end Go.Ft
namespace Go.Proofs.YtdgljcpjcgldfaaGreatDoor
open Go Go.Abs Go.Ft
set_option maxRecDepth 20000
attribute [local irreducible] AO AR AW AC
class Mi [cZ]:Prop where
  hD:¬ cZ.D
variable [cZ]
theorem MG :Tryz.prog.cellsOf 5=1:=by kernel_rfl
theorem Hr :Tryz.prog.eqGuardType Tryz.prog.depth 161=false:=by kernel_rfl
theorem Hq :Tryz.prog.eqGuardType Tryz.prog.depth 164=false:=by kernel_rfl
theorem Ho :Tryz.prog.eqGuardType Tryz.prog.depth 203=false:=by kernel_rfl
theorem JX :Tryz.prog.eqGuardType Tryz.prog.depth 46=false:=by kernel_rfl
theorem Gp :Tryz.prog.eqGuardType Tryz.prog.depth 48=false:=by kernel_rfl
theorem Gn :Tryz.prog.eqGuardType Tryz.prog.depth 57=false:=by kernel_rfl
theorem JW :Tryz.prog.eqGuardType Tryz.prog.depth 68=false:=by kernel_rfl
theorem FI (a b:aj):Et Tryz.prog 100 161 (.agg (aj.cells a)) (.agg (aj.cells b))=some (aj.oC a b):=by kernel_rfl
theorem FH (a b:aA):Et Tryz.prog 100 164 (.agg (aA.cells a)) (.agg (aA.cells b))=some (aA.oC a b):=by kernel_rfl
theorem FE (a b:ah):Et Tryz.prog 100 203 (.agg (ah.cells a)) (.agg (ah.cells b))=some (ah.oC a b):=by kernel_rfl
theorem Hl (a b:aK):Et Tryz.prog 100 46 (.agg (aK.cells a)) (.agg (aK.cells b))=some (aK.oC a b):=by kernel_rfl
theorem Es (a b:aG):Et Tryz.prog 100 48 (.agg (aG.cells a)) (.agg (aG.cells b))=some (aG.oC a b):=by kernel_rfl
theorem Er (a b:av):Et Tryz.prog 100 57 (.agg (av.cells a)) (.agg (av.cells b))=some (av.oC a b):=by kernel_rfl
theorem Hg (a b:bn):Et Tryz.prog 100 68 (.agg (bn.cells a)) (.agg (bn.cells b))=some (bn.oC a b):=by kernel_rfl
theorem LC :elemSize Tryz.prog 180=some 1:=by kernel_rfl
theorem jv :elemSize Tryz.prog 22=some 1:=by kernel_rfl
theorem wV :elemSize Tryz.prog 23=some 1:=by kernel_rfl
theorem kr :elemSize Tryz.prog 27=some 68:=by kernel_rfl
theorem oz :elemSize Tryz.prog 39=some 40:=by kernel_rfl
theorem Ep :elemSize Tryz.prog 49=some 7:=by kernel_rfl
theorem pJ :elemSize Tryz.prog 58=some 3:=by kernel_rfl
theorem vw :elemSize Tryz.prog 59=some 3:=by kernel_rfl
theorem wU :elemSize Tryz.prog 75=some 4:=by kernel_rfl
theorem Eo :elemSize Tryz.prog 78=some 3:=by kernel_rfl
theorem ow :elemSize Tryz.prog 83=some 5:=by kernel_rfl
theorem lg :elemSize Tryz.prog 84=some 8:=by kernel_rfl
theorem wT :elemSize Tryz.prog 85=some 2:=by kernel_rfl
theorem Em :elemSize Tryz.prog 89=some 2:=by kernel_rfl
theorem JR :iW Tryz.prog 211 0=some 0:=by kernel_rfl
theorem JQ :iW Tryz.prog 211 1=some 1:=by kernel_rfl
theorem Fz :iW Tryz.prog 63 3=some 4:=by kernel_rfl
theorem MV :∃ j,Tryz.prog.info? 211=some j∧(j.size != 0)=true:=sized (n:=2) (by kernel_rfl) rfl
theorem L8 :liesAt Tryz.prog Tryz.prog.depth 211 (2 / Tryz.prog.cellsOf 211) 0 211 1=true:=by kernel_rfl
theorem mixed :Tryz.prog.follows .mixedOrders=true:=by kernel_rfl
theorem GK :bF Tryz.prog 104=true:=by kernel_rfl
theorem uq :bF Tryz.prog 105=true:=by kernel_rfl
theorem GJ :bF Tryz.prog 106=true:=by kernel_rfl
theorem xK :bF Tryz.prog 107=true:=by kernel_rfl
theorem Bo :bF Tryz.prog 108=true:=by kernel_rfl
theorem GI :bF Tryz.prog 109=true:=by kernel_rfl
theorem Jm :bF Tryz.prog 11=true:=by kernel_rfl
theorem GH :bF Tryz.prog 110=true:=by kernel_rfl
theorem Jl :bF Tryz.prog 12=true:=by kernel_rfl
theorem Jk :bF Tryz.prog 13=true:=by kernel_rfl
theorem Jj :bF Tryz.prog 14=true:=by kernel_rfl
theorem GD :bF Tryz.prog 142=true:=by kernel_rfl
theorem DV :bF Tryz.prog 143=true:=by kernel_rfl
theorem GA :bF Tryz.prog 144=true:=by kernel_rfl
theorem DU :bF Tryz.prog 145=true:=by kernel_rfl
theorem Ji :bF Tryz.prog 15=true:=by kernel_rfl
theorem Jh :bF Tryz.prog 16=true:=by kernel_rfl
theorem Jg :bF Tryz.prog 17=true:=by kernel_rfl
theorem Jf :bF Tryz.prog 21=true:=by kernel_rfl
theorem K6 :bF Tryz.prog 211=true:=by kernel_rfl
theorem Je :bF Tryz.prog 26=true:=by kernel_rfl
theorem Jd :bF Tryz.prog 27=true:=by kernel_rfl
theorem Jc :bF Tryz.prog 28=true:=by kernel_rfl
theorem Jb :bF Tryz.prog 29=true:=by kernel_rfl
theorem Ja :bF Tryz.prog 30=true:=by kernel_rfl
theorem Gf :bF Tryz.prog 32=true:=by kernel_rfl
theorem I_ :bF Tryz.prog 6=true:=by kernel_rfl
theorem I9 :bF Tryz.prog 60=true:=by kernel_rfl
theorem I8 :bF Tryz.prog 61=true:=by kernel_rfl
theorem I7 :bF Tryz.prog 62=true:=by kernel_rfl
theorem I6 :bF Tryz.prog 64=true:=by kernel_rfl
theorem Gd :bF Tryz.prog 65=true:=by kernel_rfl
theorem Gc :bF Tryz.prog 66=true:=by kernel_rfl
theorem Gb :bF Tryz.prog 77=true:=by kernel_rfl
theorem I5 :bF Tryz.prog 9=true:=by kernel_rfl
theorem KZ :dL Tryz.prog 180 5 1 1:=jm (by kernel_rfl)
theorem Ga :dL Tryz.prog 22 9 1 16:=jm (by kernel_rfl)
theorem F9 :dL Tryz.prog 23 3 1 8:=jm (by kernel_rfl)
theorem lQ :dL Tryz.prog 39 63 40 552:=jm (by kernel_rfl)
theorem B_ :dL Tryz.prog 58 161 3 32:=jm (by kernel_rfl)
theorem BZ :dL Tryz.prog 59 203 3 32:=jm (by kernel_rfl)
theorem KU :dA Tryz.prog 180=some (false,1):=by kernel_rfl
theorem KT :dA Tryz.prog 209=some (false,1):=by kernel_rfl
theorem DF :dA Tryz.prog 22=some (false,1):=by kernel_rfl
theorem IY :dA Tryz.prog 23=some (false,1):=by kernel_rfl
theorem z_ :dA Tryz.prog 3=some (false,1):=by kernel_rfl
theorem F8 :dA Tryz.prog 58=some (false,1):=by kernel_rfl
theorem IX :dA Tryz.prog 59=some (false,1):=by kernel_rfl
theorem F7 :dA Tryz.prog 63=some (true,40):=by kernel_rfl
theorem F6 :dA Tryz.prog 84=some (false,1):=by kernel_rfl
theorem IW :dA Tryz.prog 87=some (true,55):=by kernel_rfl
theorem IV :dA Tryz.prog 9=some (false,1):=by kernel_rfl
theorem IU :dA Tryz.prog 91=some (true,9):=by kernel_rfl
theorem IL :Tryz.prog.underlying 22=some (.slice 9):=by kernel_rfl
theorem IK :Tryz.prog.underlying 23=some (.slice 3):=by kernel_rfl
theorem DC :Tryz.prog.underlying 4=some (.bool):=by kernel_rfl
theorem F5 :Tryz.prog.underlying 58=some (.slice 161):=by kernel_rfl
theorem F4 :Tryz.prog.underlying 59=some (.slice 203):=by kernel_rfl
theorem nM :Tryz.prog.underlying 9=some (.string):=by kernel_rfl
theorem KS :Tryz.prog.underlying 209=some (.pointer 211):=by kernel_rfl
theorem KR :Tryz.prog.underlying 316=some (.pointer 5):=by kernel_rfl
theorem KQ :Tryz.prog.underlying 358=some .unsafePointer:=by kernel_rfl
theorem Bd :iZ Tryz.prog 103=some [.int .i64 0,.str [],.str [],.int .i64 0,.str [],.int .i64 0,.int .i64 0,.str [],.own (.slice none 0 0) [],.int .i64 0,.str [],.int .i64 0,.bool false,.int .i64 0,.str [],.own (.slice none 0 0) [],.own (.slice none 0 0) [],.own (.slice none 0 0) [],.own (.slice none 0 0) [],.own (.slice none 0 0) [],.own (.slice none 0 0) [],.own (.slice none 0 0) [],.str [],.int .i64 0,.int .i64 0,.int .i64 0,.int .i64 0,.int .i64 0,.own (.slice none 0 0) [],.int .i64 0,.int .i64 0,.own (.slice none 0 0) [],.own (.slice none 0 0) [],.own (.slice none 0 0) [],.own (.slice none 0 0) [],.own (.slice none 0 0) [],.str [],.bool false,.int .i64 0,.own (.slice none 0 0) [],.int .i64 0,.own (.slice none 0 0) [],.int .i64 0,.int .i64 0,.bool false,.bool false,.str [],.str [],.bool false,.own (.slice none 0 0) [],.own (.slice none 0 0) [],.own (.slice none 0 0) [],.own (.slice none 0 0) [],.own (.slice none 0 0) [],.own (.slice none 0 0) [],.int .i64 0,.int .i64 0,.int .i64 0,.int .i64 0,.own (.slice none 0 0) [],.own (.slice none 0 0) [],.own (.slice none 0 0) [],.str [],.str [],.int .i64 0,.own (.slice none 0 0) [],.int .i64 0,.int .i64 0]:=by kernel_rfl
theorem Gy :iZ Tryz.prog 129=some [.str [],.own (.slice none 0 0) [],.own (.slice none 0 0) []]:=by kernel_rfl
theorem II :iZ Tryz.prog 25=some [.str [],.own (.slice none 0 0) [],.int .i64 0,.int .i64 0,.bool false,.int .i64 0,.int .i64 0,.int .i64 0,.own (.slice none 0 0) []]:=by kernel_rfl
theorem tL :iZ Tryz.prog 29=some [.str [],.own (.slice none 0 0) [],.int .i64 0,.int .i64 0,.bool false,.int .i64 0,.int .i64 0,.int .i64 0,.own (.slice none 0 0) [],.bool false,.bool false,.int .i64 0,.int .i64 0,.int .i64 0,.own (.slice none 0 0) []]:=by kernel_rfl
theorem IG :iZ Tryz.prog 61=some [.int .i64 0,.int .i64 0,.own (.slice none 0 0) [],.own (.slice none 0 0) [],.own (.slice none 0 0) [],.str []]:=by kernel_rfl
theorem rZ :iZ Tryz.prog 63=some [.int .i64 0,.str [],.str [],.str [],.int .i64 0,.int .i64 0,.int .i64 0,.str [],.str [],.str [],.bool false,.own (.slice none 0 0) [],.str [],.own (.slice none 0 0) [],.int .i64 0,.int .i64 0,.bool false,.int .i64 0,.int .i64 0,.int .i64 0,.own (.slice none 0 0) [],.str [],.str [],.int .i64 0,.own (.slice none 0 0) [],.own (.slice none 0 0) [],.str [],.int .i64 0,.str [],.str [],.int .u64 0,.int .i64 0,.int .i64 0,.int .i64 0,.int .i64 0,.int .i64 0,.own (.slice none 0 0) [],.own (.slice none 0 0) [],.own (.slice none 0 0) [],.str []]:=by kernel_rfl
theorem IE :iZ Tryz.prog 91=some [.own (.slice none 0 0) [],.own (.slice none 0 0) [],.own (.slice none 0 0) [],.own (.slice none 0 0) [],.own (.slice none 0 0) [],.own (.slice none 0 0) [],.own (.slice none 0 0) [],.own (.slice none 0 0) [],.int .i64 0]:=by kernel_rfl
def FX :Facts:={ti:=[(3,false,1),(4,false,1),(9,false,1),(22,false,1),(23,false,1),(25,true,9),(27,false,1),(29,true,15),(46,true,2),(48,true,3),(49,false,1),(51,true,5),(57,true,8),(58,false,1),(59,false,1),(61,true,6),(63,true,40),(68,true,7),(75,false,1),(78,false,1),(82,true,39),(83,false,1),(84,false,1),(85,false,1),(87,true,55),(89,false,1),(101,true,9),(103,true,68),(129,true,3),(161,true,3),(164,true,2),(203,true,3)],fo:=[(25,0,0),(25,1,1),(25,2,2),(25,3,3),(25,4,4),(25,5,5),(25,6,6),(25,7,7),(25,8,8),(29,0,0),(29,1,9),(29,2,10),(29,3,11),(29,4,12),(29,5,13),(29,6,14),(51,0,0),(51,1,1),(51,2,2),(51,3,3),(51,4,4),(57,1,3),(61,0,0),(61,1,1),(61,2,2),(61,3,3),(61,4,4),(61,5,5),(63,0,0),(63,1,1),(63,2,2),(63,3,4),(63,4,5),(63,5,6),(63,6,7),(63,7,8),(63,8,11),(63,9,12),(63,10,21),(63,11,26),(63,12,34),(68,0,0),(82,0,0),(82,3,12),(82,4,13),(82,12,24),(82,13,25),(82,14,26),(82,15,27),(82,16,28),(87,0,0),(87,1,7),(87,2,46),(87,3,49),(87,4,50),(87,5,51),(87,6,52),(87,7,53),(87,8,54),(91,0,0),(91,1,1),(91,2,2),(91,3,3),(91,4,4),(91,5,5),(91,6,6),(91,7,7),(101,0,0),(101,1,6),(101,2,7),(101,3,8),(103,0,0),(103,1,55),(103,2,56),(103,3,57),(103,4,66),(103,5,67),(124,0,0),(129,0,0),(129,1,1),(129,2,2),(161,0,0),(196,1,1),(196,2,2)],fd:=[],str:=[]}
theorem aZ :FX.okB Tryz.prog=true:=by kernel_rfl
theorem cs {n:Nat} {all:Array Oper} {σ:List aM} {ds:List Deferred} {Q:Post} (k:Nat) {l l':List Oper} {env env':Env} (h:sU FX all n k l env=some (env',l')) (hr:AR Tryz.prog n all l' env' σ ds Q):AR Tryz.prog n all l env σ ds Q:=AR.cs aZ k h hr
def FY :FB:=⟨{FX with ti:=FX.ti ++ [(3,false,1),(4,false,1),(9,false,1),(22,false,1),(23,false,1),(25,true,9),(27,false,1),(29,true,15),(57,true,8),(58,false,1),(59,false,1),(61,true,6),(63,true,40),(91,true,9),(103,true,68),(129,true,3)]},[(63,[.int .i64 0,.str [],.str [],.str [],.int .i64 0,.int .i64 0,.int .i64 0,.str [],.str [],.str [],.bool false,.own (.slice none 0 0) [],.str [],.own (.slice none 0 0) [],.int .i64 0,.int .i64 0,.bool false,.int .i64 0,.int .i64 0,.int .i64 0,.own (.slice none 0 0) [],.str [],.str [],.int .i64 0,.own (.slice none 0 0) [],.own (.slice none 0 0) [],.str [],.int .i64 0,.str [],.str [],.int .u64 0,.int .i64 0,.int .i64 0,.int .i64 0,.int .i64 0,.int .i64 0,.own (.slice none 0 0) [],.own (.slice none 0 0) [],.own (.slice none 0 0) [],.str []]),(91,[.own (.slice none 0 0) [],.own (.slice none 0 0) [],.own (.slice none 0 0) [],.own (.slice none 0 0) [],.own (.slice none 0 0) [],.own (.slice none 0 0) [],.own (.slice none 0 0) [],.own (.slice none 0 0) [],.int .i64 0])],[(63,[(0,1),(1,1),(2,2),(4,1),(5,1),(6,1),(7,1),(8,3),(11,1),(12,9),(21,5),(26,8),(34,6)]),(91,[(0,1),(1,1),(2,1),(3,1),(4,1),(5,1),(6,1),(7,1),(8,1)])]⟩
instance : FK Tryz.prog:=⟨FY,⟨by kernel_rfl,by kernel_rfl,by kernel_rfl⟩,[6,10,16,17,26,31,33,34,35,63,67,68,103,105],by kernel_rfl⟩
variable {τ : List aM} {Q : lK → List aM → Prop}
abbrev PC :=AC Tryz.prog
@[reducible] def iP (x:Int):PV:=.int .i64 x
@[reducible] def sP (x:List Str):PV:=.list (List.map aY x)
@[reducible] def pP (b:Nat):PV:=.val (.pointer (some ⟨b,0,none⟩))
@[reducible] def uN (x:aI):List PV:=[.str x.iD,.list (List.map aY x.labels),.int .i64 x.trust,.int .i64 x.slots,.bool x.cu,.int .i64 x.phase,.int .i64 x.gu,.int .i64 x.bR,.list (List.map je x.tokens)]
@[reducible] def bY (x:aH):List PV:=[.str x.worker.iD,.list (List.map aY x.worker.labels),.int .i64 x.worker.trust,.int .i64 x.worker.slots,.bool x.worker.cu,.int .i64 x.worker.phase,.int .i64 x.worker.gu,.int .i64 x.worker.bR,.list (List.map je x.worker.tokens),.bool x.up,.bool x.joined,.int .i64 x.gu,.int .i64 x.heard,.int .i64 x.bR,.list (List.map aF.cells x.tasks)]
@[reducible] def GZ (x:aK):List PV:=[.str x.run,.str x.job]
@[reducible] def GY (x:aG):List PV:=[.str x.project,.str x.ref,.bool x.fork]
@[reducible] def uP (x:ak):List PV:=[.str x.name,.str x.text,.int .i64 x.level,.list (List.map aY x.refs),.list (List.map aY x.environments)]
@[reducible] def Ig (x:aT):List PV:=[.str x.project,.int .i64 x.trust,.str x.ref]
@[reducible] def Ij (x:av):List PV:=[.str x.scope.project,.int .i64 x.scope.trust,.str x.scope.ref,.str x.key,.int .u64 (x.digest.toNat:Int),.int .i64 x.size,.int .i64 x.created,.int .i64 x.used]
@[reducible] def mZ (x:aJ):List PV:=[.int .i64 x.status,.int .i64 x.bU,.list (List.map aj.cells x.inputs),.list (List.map aj.cells x.outputs),.list (List.map ah.cells x.tests),.str x.child]
@[reducible] def lT (x:au):List PV:=[.int .i64 x.kind,.str x.name,.str x.ref.run,.str x.ref.job,.int .i64 x.n,.int .i64 x.token,.int .i64 x.bU,.str x.text,.str x.origin.project,.str x.origin.ref,.bool x.origin.fork,.list (List.map aX.cells x.args),.str x.worker.iD,.list (List.map aY x.worker.labels),.int .i64 x.worker.trust,.int .i64 x.worker.slots,.bool x.worker.cu,.int .i64 x.worker.phase,.int .i64 x.worker.gu,.int .i64 x.worker.bR,.list (List.map je x.worker.tokens),.str x.secret.name,.str x.secret.text,.int .i64 x.secret.level,.list (List.map aY x.secret.refs),.list (List.map aY x.secret.environments),.str x.entry.scope.project,.int .i64 x.entry.scope.trust,.str x.entry.scope.ref,.str x.entry.key,.int .u64 (x.entry.digest.toNat:Int),.int .i64 x.entry.size,.int .i64 x.entry.created,.int .i64 x.entry.used,.int .i64 x.result.status,.int .i64 x.result.bU,.list (List.map aj.cells x.result.inputs),.list (List.map aj.cells x.result.outputs),.list (List.map ah.cells x.result.tests),.str x.result.child]
@[reducible] def Ii (x:bn):List PV:=[.int .i64 x.token,.str x.ref.run,.str x.ref.job,.int .i64 x.attempt,.str x.worker,.int .i64 x.granted,.int .i64 x.expires]
@[reducible] def Ie (x:aD):List PV:=[.int .i64 x.kind,.bool x.jK,.int .i64 x.mJ,.str x.mh,.list (aD.bW x.jr),.list (List.map aY x.keys)]
@[reducible] def JG (x:aL):List PV:=[.int .i64 x.kind,.str x.name,.int .i64 x.value.kind,.bool x.value.jK,.int .i64 x.value.mJ,.str x.value.mh,.list (aD.bW x.value.jr),.list (List.map aY x.value.keys),.list (aL.bW x.args),.list (List.map aY x.keys)]
@[reducible] def Ih (x:bD):List PV:=[.int .i64 x.max,.list (List.map je x.classes),.int .i64 x.base,.int .i64 x.cap]
@[reducible] def Fv (x:aR):List PV:=[.int .i64 x.dK,.list (List.map aY x.dJ),.int .i64 x.iE]
@[reducible] def Ck (x:bN):List PV:=[.str x.iD,.list (List.map aY x.needs),.int .i64 x.when.kind,.str x.when.name,.int .i64 x.when.value.kind,.bool x.when.value.jK,.int .i64 x.when.value.mJ,.str x.when.value.mh,.list (aD.bW x.when.value.jr),.list (List.map aY x.when.value.keys),.list (aL.bW x.when.args),.list (List.map aY x.when.keys),.list (List.map aX.cells x.vars),.list (List.map aQ.cells x.steps),.list (List.map aY x.labels),.str x.group,.int .i64 x.policy,.int .i64 x.priority,.int .i64 x.cost,.int .i64 x.timeout,.int .i64 x.retry.max,.list (List.map je x.retry.classes),.int .i64 x.retry.base,.int .i64 x.retry.cap,.list (List.map aY x.inputs),.list (List.map aY x.uses),.list (List.map aY x.outputs),.list (List.map aB.cells x.caches),.list (List.map aY x.bB),.str x.environment,.bool x.jV,.int .i64 x.gate.dK,.list (List.map aY x.gate.dJ),.int .i64 x.gate.iE,.list (List.map aY x.tests),.int .i64 x.lN,.int .i64 x.jA,.bool x.gT,.bool x.child]
@[reducible] def iC (x:aC):List PV:=[.int .i64 x.bQ.token,.str x.bQ.ref.run,.str x.bQ.ref.job,.int .i64 x.bQ.attempt,.str x.bQ.worker,.int .i64 x.bQ.granted,.int .i64 x.bQ.expires,.str x.job.iD,.list (List.map aY x.job.needs),.int .i64 x.job.when.kind,.str x.job.when.name,.int .i64 x.job.when.value.kind,.bool x.job.when.value.jK,.int .i64 x.job.when.value.mJ,.str x.job.when.value.mh,.list (aD.bW x.job.when.value.jr),.list (List.map aY x.job.when.value.keys),.list (aL.bW x.job.when.args),.list (List.map aY x.job.when.keys),.list (List.map aX.cells x.job.vars),.list (List.map aQ.cells x.job.steps),.list (List.map aY x.job.labels),.str x.job.group,.int .i64 x.job.policy,.int .i64 x.job.priority,.int .i64 x.job.cost,.int .i64 x.job.timeout,.int .i64 x.job.retry.max,.list (List.map je x.job.retry.classes),.int .i64 x.job.retry.base,.int .i64 x.job.retry.cap,.list (List.map aY x.job.inputs),.list (List.map aY x.job.uses),.list (List.map aY x.job.outputs),.list (List.map aB.cells x.job.caches),.list (List.map aY x.job.bB),.str x.job.environment,.bool x.job.jV,.int .i64 x.job.gate.dK,.list (List.map aY x.job.gate.dJ),.int .i64 x.job.gate.iE,.list (List.map aY x.job.tests),.int .i64 x.job.lN,.int .i64 x.job.jA,.bool x.job.gT,.bool x.job.child,.str x.origin.project,.str x.origin.ref,.bool x.origin.fork,.list (List.map ak.cells x.bB),.list (List.map aj.cells x.artifacts),.list (List.map av.cells x.entries),.list (List.map aY x.tests),.list (List.map aA.cells x.times),.list (List.map aY x.ignored)]
@[reducible] def uO (x:dn):List PV:=[.list (List.map bf.cells x.files),.list (List.map aj.cells x.artifacts),.list (List.map ak.cells x.bB),.list (List.map av.cells x.caches),.list (List.map aY x.keys),.list (List.map aY x.tests),.list (List.map aA.cells x.times),.list (List.map aY x.ignored),.int .i64 x.attempt]
@[reducible] def uQ (x:aU):List PV:=[.int .i64 x.result.status,.int .i64 x.result.bU,.list (List.map aj.cells x.result.inputs),.list (List.map aj.cells x.result.outputs),.list (List.map ah.cells x.result.tests),.str x.result.child,.str x.log,.int .i64 x.time,.list (List.map av.cells x.saves)]
@[reducible] def qM (x:aF):List PV:=[.int .i64 x.work.bQ.token,.str x.work.bQ.ref.run,.str x.work.bQ.ref.job,.int .i64 x.work.bQ.attempt,.str x.work.bQ.worker,.int .i64 x.work.bQ.granted,.int .i64 x.work.bQ.expires,.str x.work.job.iD,.list (List.map aY x.work.job.needs),.int .i64 x.work.job.when.kind,.str x.work.job.when.name,.int .i64 x.work.job.when.value.kind,.bool x.work.job.when.value.jK,.int .i64 x.work.job.when.value.mJ,.str x.work.job.when.value.mh,.list (aD.bW x.work.job.when.value.jr),.list (List.map aY x.work.job.when.value.keys),.list (aL.bW x.work.job.when.args),.list (List.map aY x.work.job.when.keys),.list (List.map aX.cells x.work.job.vars),.list (List.map aQ.cells x.work.job.steps),.list (List.map aY x.work.job.labels),.str x.work.job.group,.int .i64 x.work.job.policy,.int .i64 x.work.job.priority,.int .i64 x.work.job.cost,.int .i64 x.work.job.timeout,.int .i64 x.work.job.retry.max,.list (List.map je x.work.job.retry.classes),.int .i64 x.work.job.retry.base,.int .i64 x.work.job.retry.cap,.list (List.map aY x.work.job.inputs),.list (List.map aY x.work.job.uses),.list (List.map aY x.work.job.outputs),.list (List.map aB.cells x.work.job.caches),.list (List.map aY x.work.job.bB),.str x.work.job.environment,.bool x.work.job.jV,.int .i64 x.work.job.gate.dK,.list (List.map aY x.work.job.gate.dJ),.int .i64 x.work.job.gate.iE,.list (List.map aY x.work.job.tests),.int .i64 x.work.job.lN,.int .i64 x.work.job.jA,.bool x.work.job.gT,.bool x.work.job.child,.str x.work.origin.project,.str x.work.origin.ref,.bool x.work.origin.fork,.list (List.map ak.cells x.work.bB),.list (List.map aj.cells x.work.artifacts),.list (List.map av.cells x.work.entries),.list (List.map aY x.work.tests),.list (List.map aA.cells x.work.times),.list (List.map aY x.work.ignored),.int .i64 x.began,.int .i64 x.done,.int .i64 x.effect.result.status,.int .i64 x.effect.result.bU,.list (List.map aj.cells x.effect.result.inputs),.list (List.map aj.cells x.effect.result.outputs),.list (List.map ah.cells x.effect.result.tests),.str x.effect.result.child,.str x.effect.log,.int .i64 x.effect.time,.list (List.map av.cells x.effect.saves),.int .i64 x.sent,.int .i64 x.saved]
@[reducible] def Gj (x:bf):List PV:=[.str x.path,.int .u64 (x.digest.toNat:Int)]
@[reducible] def EY (x:aB):List PV:=[.str x.key,.list (List.map aY x.restore),.list (List.map aY x.files)]
@[reducible] def GX (x:aj):List PV:=[.str x.name,.int .u64 (x.digest.toNat:Int),.int .i64 x.size]
@[reducible] def GV (x:aA):List PV:=[.str x.name,.int .i64 x.time]
@[reducible] def JF (x:aQ):List PV:=[.int .i64 x.op,.str x.name,.str x.text,.int .i64 x.n]
@[reducible] def Ee (x:ah):List PV:=[.str x.name,.int .i64 x.status,.int .i64 x.time]
@[reducible] def Ka (x:aX):List PV:=[.str x.name,.int .i64 x.value.kind,.bool x.value.jK,.int .i64 x.value.mJ,.str x.value.mh,.list (aD.bW x.value.jr),.list (List.map aY x.value.keys)]
theorem iF (l1:List Str) (Ch:Int) (qy:Int) {r0:Bool} (hf:fZ l1 Ch qy=some r0) (h:Q (.ret (.bool r0)) τ):PC 105 [sP l1,iP Ch,iP qy] τ Q:=by
 unfold fZ at hf; refine BN 25 [.tmp 6] [0,1,2] Tryz.func105 Z Z Z Z Z (W 2 Z (AS Z (AO.aO (l:=l1) Z Z Z Z jv Z Z (J 2 Z (C hf Z (fun h1 hf=>?_) fun h1 hf=>?_)))))
 · cases hf; exact M 1 Z (Y Z h)
 refine V 1 Z (yZ (fun i1=>[(0,sP l1),(2,iP qy),(7,iP i1)]) (fun i1=>[]) (fun eY i1=>gG l1 qy eY i1=some r0) BIG 0 Z Z hf (fun _ hz=>dN hz) ?_); intro eY i1 hf; rw [gG] at hf; refine W 2 Z (AS Z (AO.aO (l:=l1) Z Z Z Z jv Z Z (J 1 Z (C hf Z (fun h2 hf=>?_) fun h2 hf=>?_))))
 ·
  refine B1 hf fun e1 h3 hf=>W 2 Z (AS Z (AO.bC h3 Z Z Z Z jv Z Z (U 1 Z (AS Z (AO.fG Z Z Z Z nM Z (J 2 Z (C hf Z (fun h4 hf=>?_) fun h4 hf=>?_)))))))
  · cases hf; exact M 1 Z (Y Z h)
  exact M 3 Z ⟨(fU (i1 + 1)),Z,Z,Z,hf⟩
 cases hf; exact M 1 Z (Y Z h)
theorem vL (j1:bN) {r0:Bool} (hf:jD j1=some r0) (h:Q (.ret (.bool r0)) τ):PC 63 [.agg (Ck j1)] τ Q:=by
 unfold jD at hf; refine BN 57 [.tmp 2] [0] Tryz.func63 Z Z Z Z Z (W 4 Z (AS Z (AO.aO (l:=j1.steps) Z Z Z Z wU Z Z (U 2 Z (AR.or 5 8 13 [1] (x:=(decide (10 < (j1.caches.length:Int)))) Z Z (fun h1=>?_) (fun h1=>?_) ?_)))))
 · refine Is 8 h1 Z (U 2 Z (GO Z (AO.aO (l:=j1.caches) Z Z Z Z Eo Z Z ?_))); exact eG 2 Z (En [13,1] Z)
 · refine Is 8 h1 Z ?_; exact eG 5 Z (En [13,1] Z)
 refine J 0 Z (C hf Z (fun h2 hf=>?_) fun h2 hf=>?_)
 · cases hf; exact M 1 Z (Y Z h)
 refine V 1 Z (yZ (fun i1=>[(1,.ref (Ck j1)),(3,iP i1)]) (fun i1=>[]) (fun eY i1=>dS j1 eY i1=some r0) BIG 0 Z Z hf (fun _ hz=>dN hz) ?_); intro eY i1 hf; rw [dS] at hf; refine W 3 Z (AS Z (AO.aO (l:=j1.steps) Z Z Z Z wU Z Z (J 1 Z (C hf Z (fun h3 hf=>?_) fun h3 hf=>?_))))
 ·
  refine B1 hf fun e1 h4 hf=>W 3 Z (AS Z (AO.bC h4 Z Z Z Z wU (aQ.ay _) Z (U 2 Z (AS Z (AO.fG Z Z Z Z nM Z ?_))))); refine B1 hf fun b1 h6 hf=>U 2 Z (AR.dO 9 29 38 false [1,3] b1 Z Z (fun h5=>?_) (fun h5=>?_) ?_)
  · refine IF 29 h5 h6 Z fun h6=>?_; refine B1 h6 fun e2 h7 h6=>U 3 Z (GO Z (AO.bC h7 Z Z Z Z wU (aQ.ay _) Z (U 2 Z (GO Z (AO.fG Z Z Z Z nM Z ?_))))); cases h6; exact eG 2 Z (En [38,1,3] Z)
  · refine IT 29 h5 h6 Z fun h6=>?_; cases h6; exact eG 9 Z (En [38,1,3] Z)
  refine J 0 Z (C hf Z (fun h8 hf=>?_) fun h8 hf=>?_)
  · cases hf; exact M 1 Z (Y Z h)
  exact M 3 Z ⟨(fU (i1 + 1)),Z,Z,Z,hf⟩
 refine B1 hf fun x1 h9 hf=>W 2 Z (CL Z (iF _ _ _ h9 ?_)); refine B1 hf fun b2 h11 hf=>U 1 Z (AR.dO 4 42 46 true [1] b2 Z Z (fun h10=>?_) (fun h10=>?_) ?_)
 · refine IT 42 h10 h11 Z fun h11=>?_; refine BR h11 fun x2 h12 h11=>?_; refine U 2 Z (GO Z (AO.call Z _ Z Z uq (iF _ _ _ h12 ?_))); cases h11; exact eG 1 Z (En [46,1] Z)
 · refine IF 42 h10 h11 Z fun h11=>?_; cases h11; exact eG 4 Z (En [46,1] Z)
 refine B1 hf fun b3 m_ hf=>U 1 Z (AR.dO 4 47 51 true [1] b3 Z Z (fun lJ=>?_) (fun lJ=>?_) ?_)
 · refine IT 47 lJ m_ Z fun m_=>?_; refine BR m_ fun x3 sI m_=>?_; refine U 2 Z (GO Z (AO.call Z _ Z Z uq (iF _ _ _ sI ?_))); cases m_; exact eG 1 Z (En [51,1] Z)
 · refine IF 47 lJ m_ Z fun m_=>?_; cases m_; exact eG 4 Z (En [51,1] Z)
 refine BR hf fun b4 qo hf=>?_; refine U 1 Z (AR.dO 4 52 56 true [] b4 Z Z (fun h16=>?_) (fun h16=>?_) ?_)
 · refine IT 52 h16 qo Z fun qo=>?_; refine BR qo fun x4 h18 qo=>?_; refine U 2 Z (GO Z (AO.call Z _ Z Z uq (iF _ _ _ h18 ?_))); cases qo; exact eG 1 Z (En [56] Z)
 · refine IF 52 h16 qo Z fun qo=>?_; cases qo; exact eG 4 Z (En [56] Z)
 cases hf; exact N 1 Z (Y Z h)
theorem sK (l1:List Str) {r0:Bool} (hf:kN l1=some r0) (h:Q (.ret (.bool r0)) τ):PC 145 [sP l1] τ Q:=by
 unfold kN at hf; refine BN 19 [.tmp 2] [0] Tryz.func145 Z Z Z Z Z (V 2 Z (yZ (fun i1=>[(0,sP l1),(3,iP i1)]) (fun i1=>[]) (fun eY i1=>gH l1 eY i1=some r0) BIG 0 Z Z hf (fun _ hz=>dN hz) ?_)); intro eY i1 hf; rw [gH] at hf; refine W 2 Z (AS Z (AO.aO (l:=l1) Z Z Z Z jv Z Z (J 1 Z (C hf Z (fun h1 hf=>?_) fun h1 hf=>?_))))
 ·
  refine B1 hf fun e1 h2 hf=>W 2 Z (AS Z (AO.bC h2 Z Z Z Z jv Z Z (U 1 Z (AS Z (AO.fG Z Z Z Z nM Z (J 1 Z (C hf Z (fun h3 hf=>?_) fun h3 hf=>?_)))))))
  · cases hf; exact M 1 Z (Y Z h)
  exact M 3 Z ⟨(fU (i1 + 1)),Z,Z,Z,hf⟩
 refine W 1 Z (AS Z (AO.aO (l:=l1) Z Z Z Z jv Z Z ?_)); cases hf; exact N 2 Z (Y Z h)
theorem AU (l1:List ak) {r0:Bool} (hf:mF l1=some r0) (h:Q (.ret (.bool r0)) τ):PC 106 [.list (List.map ak.cells l1)] τ Q:=by
 unfold mF at hf; refine BN 47 [.tmp 2] [0] Tryz.func106 Z Z Z Z Z (W 2 Z (AS Z (AO.aO (l:=l1) Z Z Z Z ow Z Z (J 1 Z (C hf Z (fun h1 hf=>?_) fun h1 hf=>?_)))))
 · cases hf; exact M 1 Z (Y Z h)
 refine V 1 Z (yZ (fun i1=>[(0,.list (List.map ak.cells l1)),(3,iP i1)]) (fun i1=>[]) (fun eY i1=>gI l1 eY i1=some r0) BIG 0 Z Z hf (fun _ hz=>dN hz) ?_); intro eY i1 hf; rw [gI] at hf; refine W 2 Z (AS Z (AO.aO (l:=l1) Z Z Z Z ow Z Z (J 1 Z (C hf Z (fun h2 hf=>?_) fun h2 hf=>?_))))
 ·
  refine B1 hf fun e1 h3 hf=>W 2 Z (AS Z (AO.bC h3 Z Z Z Z ow (ak.ay _) Z (U 2 Z (AS Z (AO.fG Z Z Z Z nM Z ?_))))); refine B1 hf fun b1 h5 hf=>U 2 Z (AR.dO 8 20 28 false [0,3] b1 Z Z (fun h4=>?_) (fun h4=>?_) ?_)
  · refine IF 20 h4 h5 Z fun h5=>?_; refine B1 h5 fun e2 h6 h5=>U 2 Z (GO Z (AO.bC h6 Z Z Z Z ow (ak.ay _) Z (U 2 Z (GO Z (AO.fG Z Z Z Z nM Z ?_))))); cases h5; exact eG 2 Z (En [28,0,3] Z)
  · refine IT 20 h4 h5 Z fun h5=>?_; cases h5; exact eG 8 Z (En [28,0,3] Z)
  refine B1 hf fun b2 h8 hf=>U 1 Z (AR.dO 8 29 37 false [0,3] b2 Z Z (fun h7=>?_) (fun h7=>?_) ?_)
  · refine IF 29 h7 h8 Z fun h8=>?_; refine B1 h8 fun e3 h9 h8=>U 2 Z (GO Z (AO.bC h9 Z Z Z Z ow (ak.ay _) Z ?_)); refine B1 h8 fun x1 h10 h8=>U 2 Z (GO Z (AO.call Z _ Z Z DU (sK _ h10 ?_))); cases h8; exact eG 2 Z (En [37,0,3] Z)
  · refine IT 29 h7 h8 Z fun h8=>?_; cases h8; exact eG 8 Z (En [37,0,3] Z)
  refine B1 hf fun b3 h12 hf=>U 1 Z (AR.dO 8 38 46 false [0,3] b3 Z Z (fun h11=>?_) (fun h11=>?_) ?_)
  · refine IF 38 h11 h12 Z fun h12=>?_; refine B1 h12 fun e4 lJ h12=>U 2 Z (GO Z (AO.bC lJ Z Z Z Z ow (ak.ay _) Z ?_)); refine B1 h12 fun x2 m_ h12=>U 2 Z (GO Z (AO.call Z _ Z Z DU (sK _ m_ ?_))); cases h12; exact eG 2 Z (En [46,0,3] Z)
  · refine IT 38 h11 h12 Z fun h12=>?_; cases h12; exact eG 8 Z (En [46,0,3] Z)
  refine J 0 Z (C hf Z (fun sI hf=>?_) fun sI hf=>?_)
  · cases hf; exact M 1 Z (Y Z h)
  exact M 3 Z ⟨(fU (i1 + 1)),Z,Z,Z,hf⟩
 cases hf; exact M 1 Z (Y Z h)
theorem sZ (v1:dn) {r0:Bool} (hf:iR v1=some r0) (h:Q (.ret (.bool r0)) τ):PC 64 [.agg (uO v1)] τ Q:=by
 unfold iR at hf; refine BN 76 [.tmp 2] [0] Tryz.func64 Z Z Z Z Z (W 4 Z (AS Z (AO.aO (l:=v1.files) Z Z Z Z Em Z Z (U 2 Z (AR.or 5 9 14 [1] (x:=(decide (30 < (v1.artifacts.length:Int)))) Z Z (fun h1=>?_) (fun h1=>?_) ?_)))))
 · refine Is 9 h1 Z (U 2 Z (GO Z (AO.aO (l:=v1.artifacts) Z Z Z Z pJ Z Z ?_))); exact eG 2 Z (En [14,1] Z)
 · refine Is 9 h1 Z ?_; exact eG 5 Z (En [14,1] Z)
 refine U 1 Z (AR.or 5 15 20 [1] (x:=(decide (12 < (v1.caches.length:Int)))) Z Z (fun h2=>?_) (fun h2=>?_) ?_)
 · refine Is 15 h2 Z (U 2 Z (GO Z (AO.aO (l:=v1.caches) Z Z Z Z lg Z Z ?_))); exact eG 2 Z (En [20,1] Z)
 · refine Is 15 h2 Z ?_; exact eG 5 Z (En [20,1] Z)
 refine U 1 Z (AR.or 5 21 26 [1] (x:=(decide (60 < (v1.times.length:Int)))) Z Z (fun h3=>?_) (fun h3=>?_) ?_)
 · refine Is 21 h3 Z (U 2 Z (GO Z (AO.aO (l:=v1.times) Z Z Z Z wT Z Z ?_))); exact eG 2 Z (En [26,1] Z)
 · refine Is 21 h3 Z ?_; exact eG 5 Z (En [26,1] Z)
 refine B1 hf fun b1 h5 hf=>U 1 Z (AR.dO 5 27 32 false [1] b1 Z Z (fun h4=>?_) (fun h4=>?_) ?_)
 · refine IF 27 h4 h5 Z fun h5=>?_; refine B1 h5 fun x1 h6 h5=>U 2 Z (GO Z (AO.call Z _ Z Z GJ (AU _ h6 ?_))); cases h5; exact eG 2 Z (En [32,1] Z)
 · refine IT 27 h4 h5 Z fun h5=>?_; cases h5; exact eG 5 Z (En [32,1] Z)
 refine J 0 Z (C hf Z (fun h7 hf=>?_) fun h7 hf=>?_)
 · cases hf; exact M 1 Z (Y Z h)
 refine V 1 Z (yZ (fun i1=>[(1,.ref (uO v1)),(3,iP i1)]) (fun i1=>[]) (fun eY i1=>dG v1 eY i1=some r0) BIG 0 Z Z hf (fun _ hz=>dN hz) ?_); intro eY i1 hf; rw [dG] at hf; refine W 3 Z (AS Z (AO.aO (l:=v1.files) Z Z Z Z Em Z Z (J 1 Z (C hf Z (fun h8 hf=>?_) fun h8 hf=>?_))))
 ·
  refine B1 hf fun e1 h9 hf=>W 3 Z (AS Z (AO.bC h9 Z Z Z Z Em (bf.ay _) Z (U 2 Z (AS Z (AO.fG Z Z Z Z nM Z (J 1 Z (C hf Z (fun h10 hf=>?_) fun h10 hf=>?_)))))))
  · cases hf; exact M 1 Z (Y Z h)
  exact M 3 Z ⟨(fU (i1 + 1)),Z,Z,Z,hf⟩
 refine V 1 Z (yZ (fun i2=>[(1,.ref (uO v1)),(4,iP i2)]) (fun i2=>[]) (fun wo i2=>dF v1 wo i2=some r0) BIG 0 Z Z hf (fun _ hz=>dN hz) ?_); intro wo i2 hf; rw [dF] at hf; refine W 3 Z (AS Z (AO.aO (l:=v1.artifacts) Z Z Z Z pJ Z Z (J 1 Z (C hf Z (fun h11 hf=>?_) fun h11 hf=>?_))))
 ·
  refine B1 hf fun e2 h12 hf=>W 3 Z (AS Z (AO.bC h12 Z Z Z Z pJ (aj.ay _) Z (U 2 Z (AS Z (AO.fG Z Z Z Z nM Z (J 1 Z (C hf Z (fun lJ hf=>?_) fun lJ hf=>?_)))))))
  · cases hf; exact M 1 Z (Y Z h)
  exact M 3 Z ⟨(fU (i2 + 1)),Z,Z,Z,hf⟩
 refine B1 hf fun x2 m_ hf=>W 2 Z (CL Z (iF _ _ _ m_ ?_)); refine B1 hf fun b2 h16 hf=>U 1 Z (AR.dO 4 66 70 true [1] b2 Z Z (fun sI=>?_) (fun sI=>?_) ?_)
 · refine IT 66 sI h16 Z fun h16=>?_; refine BR h16 fun x3 qo h16=>?_; refine U 2 Z (GO Z (AO.call Z _ Z Z uq (iF _ _ _ qo ?_))); cases h16; exact eG 1 Z (En [70,1] Z)
 · refine IF 66 sI h16 Z fun h16=>?_; cases h16; exact eG 4 Z (En [70,1] Z)
 refine BR hf fun b3 h19 hf=>?_; refine U 1 Z (AR.dO 4 71 75 true [] b3 Z Z (fun h18=>?_) (fun h18=>?_) ?_)
 · refine IT 71 h18 h19 Z fun h19=>?_; refine BR h19 fun x4 h20 h19=>?_; refine U 2 Z (GO Z (AO.call Z _ Z Z uq (iF _ _ _ h20 ?_))); cases h19; exact eG 1 Z (En [75] Z)
 · refine IF 71 h18 h19 Z fun h19=>?_; cases h19; exact eG 4 Z (En [75] Z)
 cases hf; exact N 1 Z (Y Z h)
theorem sW (w1:aC) {r0:Bool} (hf:iQ w1=some r0) (h:Q (.ret (.bool r0)) τ):PC 28 [.agg (iC w1)] τ Q:=by
 unfold iQ at hf; refine BN 85 [.tmp 2] [0] Tryz.func28 Z Z Z Z Z (W 13 Z (AS Z (AO.bX Z IE (fun b3=>?_)))); refine B1 hf fun x1 h1 hf=>Rr 3 [0] Z Z (CL Z (vL _ h1 ?_)); refine B1 hf fun b1 h3 hf=>U 2 Z (AR.dO 4 22 26 false [1] b1 Z Z (fun h2=>?_) (fun h2=>?_) ?_)
 · replace h3:=sH h2 h3; refine Is 22 h2 Z (GO Z (AO.dH (i:=0) Z Z Z IU Z Z ?_)); refine B1 h3 fun x2 h4 h3=>GO Z (AO.call Z _ Z Z I6 (sZ _ h4 ?_)); cases h3; exact eG 2 Z (En [26,1] Z)
 · refine IT 22 h2 h3 Z fun h3=>?_; cases h3; exact eG 4 Z (En [26,1] Z)
 refine U 1 Z (AR.or 5 27 32 [1] (x:=(decide (20 < (w1.entries.length:Int)))) Z Z (fun h5=>?_) (fun h5=>?_) ?_)
 · refine Is 27 h5 Z (U 2 Z (GO Z (AO.aO (l:=w1.entries) Z Z Z Z lg Z Z ?_))); exact eG 2 Z (En [32,1] Z)
 · refine Is 27 h5 Z ?_; exact eG 5 Z (En [32,1] Z)
 refine U 1 Z (AR.or 6 33 39 [1] (x:=(decide (8 < (w1.job.vars.length:Int)))) Z Z (fun h6=>?_) (fun h6=>?_) ?_)
 · refine Is 33 h6 Z (U 3 Z (GO Z (AO.aO (l:=w1.job.vars) Z Z Z Z Ep Z Z ?_))); exact eG 2 Z (En [39,1] Z)
 · refine Is 33 h6 Z ?_; exact eG 6 Z (En [39,1] Z)
 refine J 0 Z (C hf Z (fun h7 hf=>?_) fun h7 hf=>?_)
 · cases hf; exact M 1 Z (Y Z h)
 refine V 1 Z (yZ (fun i1=>[(1,.ref (iC w1)),(4,iP i1)]) (fun i1=>[.box b3 [.own (.slice none 0 0) [],.list (List.map aj.cells w1.artifacts),.list (List.map ak.cells w1.bB),.own (.slice none 0 0) [],.own (.slice none 0 0) [],sP w1.tests,.list (List.map aA.cells w1.times),sP w1.ignored,iP 0]]) (fun eY i1=>dD w1 eY i1=some r0) BIG 0 Z Z hf (fun _ hz=>dN hz) ?_); intro eY i1 hf; rw [dD] at hf; refine W 3 Z (AS Z (AO.aO (l:=w1.entries) Z Z Z Z lg Z Z (J 1 Z (C hf Z (fun h8 hf=>?_) fun h8 hf=>?_))))
 ·
  refine B1 hf fun e1 h9 hf=>W 3 Z (AS Z (AO.bC h9 Z Z Z Z lg (av.ay _) Z (U 2 Z (AS Z (AO.fG Z Z Z Z nM Z (J 1 Z (C hf Z (fun h10 hf=>?_) fun h10 hf=>?_)))))))
  · cases hf; exact M 1 Z (Y Z h)
  exact M 3 Z ⟨(fU (i1 + 1)),Z,Z,Z,hf⟩
 refine V 1 Z (yZ (fun i2=>[(1,.ref (iC w1)),(5,iP i2)]) (fun i2=>[.box b3 [.own (.slice none 0 0) [],.list (List.map aj.cells w1.artifacts),.list (List.map ak.cells w1.bB),.own (.slice none 0 0) [],.own (.slice none 0 0) [],sP w1.tests,.list (List.map aA.cells w1.times),sP w1.ignored,iP 0]]) (fun wo i2=>dB w1 wo i2=some r0) BIG 0 Z Z hf (fun _ hz=>dN hz) ?_); intro wo i2 hf; rw [dB] at hf; refine W 4 Z (AS Z (AO.aO (l:=w1.job.caches) Z Z Z Z Eo Z Z (J 1 Z (C hf Z (fun h11 hf=>?_) fun h11 hf=>?_))))
 ·
  refine B1 hf fun e2 h12 hf=>W 4 Z (AS Z (AO.bC h12 Z Z Z Z Eo (aB.ay _) Z (U 1 Z (AS Z (AO.bX Z Gy (fun b6=>(Rr 3 [0,0] Z Z (AS Z (AO.fG Z Z Z Z nM Z (U 2 Z (AR.or 5 73 78 [1,5,6] (x:=(decide (4 < (e2.restore.length:Int)))) Z Z (fun lJ=>?_) (fun lJ=>?_) ?_)))))))))))
  · refine Is 73 lJ Z (U 1 Z (GO Z (AO.dH (i:=0) Z Z Z DF Z Z (GO Z (AO.aO (l:=e2.restore) Z Z Z Z jv Z Z ?_))))); exact eG 2 Z (En [78,1,5,6] Z)
  · refine Is 73 lJ Z ?_; exact eG 5 Z (En [78,1,5,6] Z)
  refine U 1 Z (AR.or 5 79 84 [1,5] (x:=(decide (4 < (e2.files.length:Int)))) Z Z (fun m_=>?_) (fun m_=>?_) ?_)
  · refine Is 79 m_ Z (U 1 Z (GO Z (AO.dH (i:=0) Z Z Z DF Z Z (GO Z (AO.aO (l:=e2.files) Z Z Z Z jv Z Z ?_))))); exact eG 2 Z (En [84,1,5] Z)
  · refine Is 79 m_ Z ?_; exact eG 5 Z (En [84,1,5] Z)
  refine J 0 Z (C hf Z (fun sI hf=>?_) fun sI hf=>?_)
  · cases hf; exact M 1 Z (Y Z h)
  refine Iz 3 Z (AR.drop1 ?_); exact N 0 Z ⟨(fU (i2 + 1)),Z,Z,Z,hf⟩
 cases hf; exact M 1 Z (Y Z h)
theorem sJ (a1:aH) {r0:Bool} (hf:kM a1=some r0) (h:Q (.ret (.bool r0)) τ):PC 10 [.agg (bY a1)] τ Q:=by
 unfold kM at hf; refine BN 94 [.tmp 2] [0] Tryz.func10 Z Z Z Z Z (W 4 Z (AS Z (AO.aO (l:=a1.tasks) Z Z Z Z kr Z Z (U 2 Z (AR.or 6 9 15 [1] (x:=(decide (40 < (a1.worker.labels.length:Int)))) Z Z (fun h1=>?_) (fun h1=>?_) ?_)))))
 · refine Is 9 h1 Z (U 3 Z (GO Z (AO.aO (l:=a1.worker.labels) Z Z Z Z jv Z Z ?_))); exact eG 2 Z (En [15,1] Z)
 · refine Is 9 h1 Z ?_; exact eG 6 Z (En [15,1] Z)
 refine J 0 Z (C hf Z (fun h2 hf=>?_) fun h2 hf=>?_)
 · cases hf; exact M 1 Z (Y Z h)
 refine V 1 Z (yZ (fun i1=>[(1,.ref (bY a1)),(3,iP i1)]) (fun i1=>[]) (fun eY i1=>gD a1 eY i1=some r0) BIG 0 Z Z hf (fun _ hz=>dN hz) ?_); intro eY i1 hf; rw [gD] at hf; refine W 3 Z (AS Z (AO.aO (l:=a1.tasks) Z Z Z Z kr Z Z (J 1 Z (C hf Z (fun h3 hf=>?_) fun h3 hf=>?_))))
 ·
  refine B1 hf fun e1 h4 hf=>W 3 Z (AS Z (AO.bC h4 Z Z Z Z kr (aF.ay _) Z (U 1 Z (AS Z (AO.bX Z Bd (fun b4=>(Rw 1 [0] Z Z (AW.draw 66 mixed (by kernel_rfl) Z ?_)))))))); refine Ev.cs aZ 1 Z (Ev.cons Z Z Z (AO.dH (i:=0) Z Z Z IW Z Z zg) ?_); refine B1 hf fun x1 h5 hf=>Ev.cons Z Z Z (AO.call Z _ Z Z Jc (sW _ h5 zg)) (Ev.cs aZ 2 Z (Ev.Ic EZ 6 32 38 [1,3,4] (decide (5000 < (e1.effect.log.length:Int))) Z Z (fun h6=>?_) (fun h6=>?_) ?_))
  · refine Ev.is uX 32 h6 Z (Ev.cs aZ 2 Z (Ev.run Z Z Z Z Z Z Z (AO.dH (i:=0) Z Z Z IV Z Z zg) (Ev.run Z Z Z Z Z Z Z (AO.fG Z Z Z Z nM Z zg) ?_))); refine Ev.cs aZ 2 Z ?_; exact Ev.nil (Less.settle (ps:=[38,1,3,4]) Z)
  · refine Ev.is uX 32 h6 Z (Ev.cs aZ 6 Z ?_); exact Ev.nil (Less.settle (ps:=[38,1,3,4]) Z)
  refine Ev.cs aZ 1 Z (Ev.Ic EZ 6 39 45 [1,3,4] (decide (80 < (e1.effect.saves.length:Int))) Z Z (fun h7=>?_) (fun h7=>?_) ?_)
  · refine Ev.is uX 39 h7 Z (Ev.cs aZ 2 Z (Ev.run Z Z Z Z Z Z Z (AO.dH (i:=0) Z Z Z F6 Z Z zg) (Ev.run Z Z Z Z Z Z Z (AO.aO (l:=e1.effect.saves) Z Z Z Z lg Z Z zg) ?_))); refine Ev.cs aZ 2 Z ?_; exact Ev.nil (Less.settle (ps:=[45,1,3,4]) Z)
  · refine Ev.is uX 39 h7 Z (Ev.cs aZ 6 Z ?_); exact Ev.nil (Less.settle (ps:=[45,1,3,4]) Z)
  refine Ev.cs aZ 1 Z (Ev.Ic EZ 4 46 50 [1,3,4] (decide (e1.sent < 0)) Z Z (fun h8=>?_) (fun h8=>?_) ?_)
  · refine Ev.is uX 46 h8 Z (Ev.cs aZ 1 Z (Ev.run Z Z Z Z Z Z Z (AO.dH (i:=0) Z Z Z z_ Z Z zg) (Ev.cs aZ 2 Z ?_))); exact Ev.nil (Less.settle (ps:=[50,1,3,4]) Z)
  · refine Ev.is uX 46 h8 Z (Ev.cs aZ 4 Z ?_); exact Ev.nil (Less.settle (ps:=[50,1,3,4]) Z)
  refine Ev.cs aZ 1 Z (Ev.Ic EZ 4 51 55 [1,3,4] (decide (e1.saved < 0)) Z Z (fun h9=>?_) (fun h9=>?_) ?_)
  · refine Ev.is uX 51 h9 Z (Ev.cs aZ 1 Z (Ev.run Z Z Z Z Z Z Z (AO.dH (i:=0) Z Z Z z_ Z Z zg) (Ev.cs aZ 2 Z ?_))); exact Ev.nil (Less.settle (ps:=[55,1,3,4]) Z)
  · refine Ev.is uX 51 h9 Z (Ev.cs aZ 4 Z ?_); exact Ev.nil (Less.settle (ps:=[55,1,3,4]) Z)
  refine Ev.cs aZ 1 Z (Ev.Ic EZ 8 56 64 [1,3,4] (decide ((e1.effect.log.length:Int) < e1.sent)) Z Z (fun h10=>?_) (fun h10=>?_) ?_)
  · refine Ev.is uX 56 h10 Z (Ev.cs aZ 1 Z (Ev.run Z Z Z Z Z Z Z (AO.dH (i:=0) Z Z Z z_ Z Z zg) (Ev.cs aZ 2 Z ?_))); refine Ev.run Z Z Z Z Z Z Z (AO.dH (i:=0) Z Z Z IV Z Z zg) (Ev.run Z Z Z Z Z Z Z (AO.fG Z Z Z Z nM Z zg) (Ev.cs aZ 2 Z ?_)); exact Ev.nil (Less.settle (ps:=[64,1,3,4]) Z)
  · refine Ev.is uX 56 h10 Z (Ev.cs aZ 8 Z ?_); exact Ev.nil (Less.settle (ps:=[64,1,3,4]) Z)
  refine Ev.cs aZ 1 Z (Ev.Ic EZ 8 65 73 [1,3,4] (decide ((e1.effect.saves.length:Int) < e1.saved)) Z Z (fun h11=>?_) (fun h11=>?_) ?_)
  · refine Ev.is uX 65 h11 Z (Ev.cs aZ 1 Z (Ev.run Z Z Z Z Z Z Z (AO.dH (i:=0) Z Z Z z_ Z Z zg) (Ev.cs aZ 2 Z ?_))); refine Ev.run Z Z Z Z Z Z Z (AO.dH (i:=0) Z Z Z F6 Z Z zg) (Ev.run Z Z Z Z Z Z Z (AO.aO (l:=e1.effect.saves) Z Z Z Z lg Z Z zg) (Ev.cs aZ 2 Z ?_)); exact Ev.nil (Less.settle (ps:=[73,1,3,4]) Z)
  · refine Ev.is uX 65 h11 Z (Ev.cs aZ 8 Z ?_); exact Ev.nil (Less.settle (ps:=[73,1,3,4]) Z)
  refine Ev.cs aZ 1 Z ?_; refine B1 hf fun b1 lJ hf=>Ev.dO EZ 19 74 93 false [1,3] (.bool b1) Z Z (fun h12=>?_) (fun h12=>?_) ?_
  ·
   replace lJ:=sH h12 lJ; refine Ev.is uX 74 h12 Z (Ev.cs aZ 3 Z ?_); refine BR lJ fun b2 sI lJ=>?_; refine Ev.dO uX 15 77 92 true [1,3,74] (.bool b2) Z Z (fun m_=>?_) (fun m_=>?_) ?_
   · replace sI:=uU m_ sI; refine Ev.is uX 77 m_ Z (Ev.cs aZ 4 Z ?_); refine B1 sI fun e2 h16 sI=>Ev.run Z Z Z Z Z Z Z (AO.bC h16 Z Z Z Z kr (aF.ay _) Z zg) (Ev.cs aZ 7 Z (Ev.run Z Z Z Z Z Z Z (AO.dH (i:=0) Z Z Z z_ Z Z zg) (Ev.cs aZ 1 Z ?_))); cases sI; refine Ev.cs aZ 1 Z ?_; exact Ev.nil (Less.settle (ps:=[92,1,3,74]) Z)
   · replace sI:=sH m_ sI; refine Ev.is uX 77 m_ Z ?_; cases sI; refine Ev.cs aZ 15 Z ?_; exact Ev.nil (Less.settle (ps:=[92,1,3,74]) Z)
   cases lJ; refine Ev.cs aZ 1 Z ?_; exact Ev.nil (Less.settle (ps:=[93,1,3]) Z)
  · replace lJ:=uU h12 lJ; refine Ev.is uX 74 h12 Z ?_; cases lJ; refine Ev.cs aZ 19 Z ?_; exact Ev.nil (Less.settle (ps:=[93,1,3]) Z)
  refine Ev.nil ?_; show AR _ _ _ _ _ _ _ _; refine J 0 Z (C hf Z (fun qo hf=>?_) fun qo hf=>?_)
  · cases hf; exact M 1 Z (Y Z h)
  refine Iz 3 Z (AR.drop1 ?_); exact N 0 Z ⟨(fU (i1 + 1)),Z,Z,Z,hf⟩
 cases hf; exact M 1 Z (Y Z h)
theorem lW {r0:Bool} (hf:jP=some r0) (h:Q (.ret (.bool r0)) τ):PC 6 [] τ Q:=by
 cases hf; exact BF mixed (f:=20000) (by kernel_rfl) h
theorem AV (a1:List Str) (b1:List Str) {r0:Bool} (hf:mG a1 b1=some r0) (h:Q (.ret (.bool r0)) τ):PC 60 [sP a1,sP b1] τ Q:=by
 unfold mG at hf; refine BN 26 [.tmp 4] [0,1] Tryz.func60 Z Z Z Z Z (W 2 Z (AS Z (AO.aO (l:=a1) Z Z Z Z jv Z Z (U 1 Z (AS Z (AO.aO (l:=b1) Z Z Z Z jv Z Z (J 1 Z (C hf Z (fun h1 hf=>?_) fun h1 hf=>?_))))))))
 · cases hf; exact M 1 Z (Y Z h)
 refine V 1 Z (yZ (fun i1=>[(0,sP a1),(1,sP b1),(5,iP i1)]) (fun i1=>[]) (fun eY i1=>gJ a1 b1 eY i1=some r0) BIG 0 Z Z hf (fun _ hz=>dN hz) ?_); intro eY i1 hf; rw [gJ] at hf; refine W 2 Z (AS Z (AO.aO (l:=a1) Z Z Z Z jv Z Z (J 1 Z (C hf Z (fun h2 hf=>?_) fun h2 hf=>?_))))
 ·
  refine V 0 Z (AW.draw 9 mixed (by kernel_rfl) Z ?_); refine Ev.cs aZ 2 Z ?_; refine B1 hf fun e1 h3 hf=>Ev.cons Z Z Z (AO.bC h3 Z Z Z Z jv Z Z zg) (Ev.cs aZ 3 Z ?_); refine B1 hf fun e2 h4 hf=>Ev.cons Z Z Z (AO.bC h4 Z Z Z Z jv Z Z zg) (Ev.cs aZ 2 Z (Ev.nil ?_)); show AR _ _ _ _ _ _ _ _; refine J 0 Z (C hf Z (fun h5 hf=>?_) fun h5 hf=>?_)
  · cases hf; exact M 1 Z (Y Z h)
  exact M 3 Z ⟨(fU (i1 + 1)),Z,Z,Z,hf⟩
 cases hf; exact M 1 Z (Y Z h)
theorem wE (a1:List Int) (b1:List Int) {r0:Bool} (hf:j_ a1 b1=some r0) (h:Q (.ret (.bool r0)) τ):PC 61 [.list (List.map je a1),.list (List.map je b1)] τ Q:=by
 unfold j_ at hf; refine BN 26 [.tmp 4] [0,1] Tryz.func61 Z Z Z Z Z (W 2 Z (AS Z (AO.aO (l:=a1) Z Z Z Z wV Z Z (U 1 Z (AS Z (AO.aO (l:=b1) Z Z Z Z wV Z Z (J 1 Z (C hf Z (fun h1 hf=>?_) fun h1 hf=>?_))))))))
 · cases hf; exact M 1 Z (Y Z h)
 refine V 1 Z (yZ (fun i1=>[(0,.list (List.map je a1)),(1,.list (List.map je b1)),(5,iP i1)]) (fun i1=>[]) (fun eY i1=>fB a1 b1 eY i1=some r0) BIG 0 Z Z hf (fun _ hz=>dN hz) ?_); intro eY i1 hf; rw [fB] at hf; refine W 2 Z (AS Z (AO.aO (l:=a1) Z Z Z Z wV Z Z (J 1 Z (C hf Z (fun h2 hf=>?_) fun h2 hf=>?_))))
 ·
  refine V 0 Z (AW.draw 9 mixed (by kernel_rfl) Z ?_); refine Ev.cs aZ 2 Z ?_; refine B1 hf fun e1 h3 hf=>Ev.cons Z Z Z (AO.bC h3 Z Z Z Z wV Z Z zg) (Ev.cs aZ 3 Z ?_); refine B1 hf fun e2 h4 hf=>Ev.cons Z Z Z (AO.bC h4 Z Z Z Z wV Z Z zg) (Ev.cs aZ 2 Z (Ev.nil ?_)); show AR _ _ _ _ _ _ _ _; refine J 0 Z (C hf Z (fun h5 hf=>?_) fun h5 hf=>?_)
  · cases hf; exact M 1 Z (Y Z h)
  exact M 3 Z ⟨(fU (i1 + 1)),Z,Z,Z,hf⟩
 cases hf; exact M 1 Z (Y Z h)
theorem vM (a1:aI) (b1:aI) {r0:Bool} (hf:mH a1 b1=some r0) (h:Q (.ret (.bool r0)) τ):PC 26 [.agg (uN a1),.agg (uN b1)] τ Q:=by
 unfold mH at hf; refine BN 66 [.tmp 4] [0,1] Tryz.func26 Z Z Z Z Z ?_; refine B1 hf fun b2 h2 hf=>W 9 Z (AR.dO 6 10 16 true [2,3] b2 Z Z (fun h1=>?_) (fun h1=>?_) ?_)
 · refine IT 10 h1 h2 Z fun h2=>?_; refine BR h2 fun x1 h3 h2=>?_; refine U 4 Z (GO Z (AO.call Z _ Z Z I9 (AV _ _ h3 ?_))); cases h2; exact eG 1 Z (En [16,2,3] Z)
 · refine IF 10 h1 h2 Z fun h2=>?_; cases h2; exact eG 6 Z (En [16,2,3] Z)
 refine U 1 Z (An 6 17 23 [2,3] (a1.trust == b1.trust) Z Z Z Z (U 1 Z (An 6 24 30 [2,3] (a1.slots == b1.slots) Z Z Z Z (U 1 Z (AR.and 6 31 37 [2,3] (x:=(a1.cu == b1.cu)) Z Z (fun h6=>?_) (fun h6=>?_) ?_)))))
 · refine Is 31 h6 Z (U 4 Z (GO Z (AO.oG Z DC Z Z ?_))); exact eG 1 Z (En [37,2,3] Z)
 · refine Is 31 h6 Z ?_; exact eG 6 Z (En [37,2,3] Z)
 refine U 1 Z (An 6 38 44 [2,3] (a1.phase == b1.phase) Z Z Z Z (U 1 Z (An 6 45 51 [2,3] (a1.gu == b1.gu) Z Z Z Z (U 1 Z (An 6 52 58 [2,3] (a1.bR == b1.bR) Z Z Z Z ?_))))); refine BR hf fun b3 h11 hf=>?_; refine U 1 Z (AR.dO 6 59 65 true [] b3 Z Z (fun h10=>?_) (fun h10=>?_) ?_)
 · refine IT 59 h10 h11 Z fun h11=>?_; refine BR h11 fun x2 h12 h11=>?_; refine U 4 Z (GO Z (AO.call Z _ Z Z I8 (wE _ _ h12 ?_))); cases h11; exact eG 1 Z (En [65] Z)
 · refine IF 59 h10 h11 Z fun h11=>?_; cases h11; exact eG 6 Z (En [65] Z)
 cases hf; exact N 1 Z (Y Z h)
theorem nA (a1:List Str) (b1:List Str) {r0:Bool} (hf:kg a1 b1=some r0) (h:Q (.ret (.bool r0)) τ):PC 107 [sP a1,sP b1] τ Q:=by
 unfold kg at hf; refine BN 26 [.tmp 4] [0,1] Tryz.func107 Z Z Z Z Z (W 2 Z (AS Z (AO.aO (l:=a1) Z Z Z Z jv Z Z (U 1 Z (AS Z (AO.aO (l:=b1) Z Z Z Z jv Z Z (J 1 Z (C hf Z (fun h1 hf=>?_) fun h1 hf=>?_))))))))
 · cases hf; exact M 1 Z (Y Z h)
 refine V 1 Z (yZ (fun i1=>[(0,sP a1),(1,sP b1),(5,iP i1)]) (fun i1=>[]) (fun eY i1=>iy a1 b1 eY i1=some r0) BIG 0 Z Z hf (fun _ hz=>dN hz) ?_); intro eY i1 hf; rw [iy] at hf; refine W 2 Z (AS Z (AO.aO (l:=a1) Z Z Z Z jv Z Z (J 1 Z (C hf Z (fun h2 hf=>?_) fun h2 hf=>?_))))
 ·
  refine V 0 Z (AW.draw 9 mixed (by kernel_rfl) Z ?_); refine Ev.cs aZ 2 Z ?_; refine B1 hf fun e1 h3 hf=>Ev.cons Z Z Z (AO.bC h3 Z Z Z Z jv Z Z zg) (Ev.cs aZ 3 Z ?_); refine B1 hf fun e2 h4 hf=>Ev.cons Z Z Z (AO.bC h4 Z Z Z Z jv Z Z zg) (Ev.cs aZ 2 Z (Ev.nil ?_)); show AR _ _ _ _ _ _ _ _; refine J 0 Z (C hf Z (fun h5 hf=>?_) fun h5 hf=>?_)
  · cases hf; exact M 1 Z (Y Z h)
  exact M 3 Z ⟨(fU (i1 + 1)),Z,Z,Z,hf⟩
 cases hf; exact M 1 Z (Y Z h)
theorem sM (a1:ak) (b1:ak) {r0:Bool} (hf:kP a1 b1=some r0) (h:Q (.ret (.bool r0)) τ):PC 65 [.agg (uP a1),.agg (uP b1)] τ Q:=by
 unfold kP at hf; refine BN 38 [.tmp 4] [0,1] Tryz.func65 Z Z Z Z Z (W 9 Z (An 6 10 16 [2,3] (a1.text == b1.text) Z Z Z Z (U 1 Z (An 6 17 23 [2,3] (a1.level == b1.level) Z Z Z Z ?_)))); refine B1 hf fun b2 h4 hf=>U 1 Z (AR.dO 6 24 30 true [2,3] b2 Z Z (fun h3=>?_) (fun h3=>?_) ?_)
 · refine IT 24 h3 h4 Z fun h4=>?_; refine BR h4 fun x1 h5 h4=>?_; refine U 4 Z (GO Z (AO.call Z _ Z Z xK (nA _ _ h5 ?_))); cases h4; exact eG 1 Z (En [30,2,3] Z)
 · refine IF 24 h3 h4 Z fun h4=>?_; cases h4; exact eG 6 Z (En [30,2,3] Z)
 refine BR hf fun b3 h7 hf=>?_; refine U 1 Z (AR.dO 6 31 37 true [] b3 Z Z (fun h6=>?_) (fun h6=>?_) ?_)
 · refine IT 31 h6 h7 Z fun h7=>?_; refine BR h7 fun x2 h8 h7=>?_; refine U 4 Z (GO Z (AO.call Z _ Z Z xK (nA _ _ h8 ?_))); cases h7; exact eG 1 Z (En [37] Z)
 · refine IF 31 h6 h7 Z fun h7=>?_; cases h7; exact eG 6 Z (En [37] Z)
 cases hf; exact N 1 Z (Y Z h)
theorem l8 (a1:List aj) (b1:List aj) {r0:Bool} (hf:ig a1 b1=some r0) (h:Q (.ret (.bool r0)) τ):PC 108 [.list (List.map aj.cells a1),.list (List.map aj.cells b1)] τ Q:=by
 unfold ig at hf; refine BN 26 [.tmp 4] [0,1] Tryz.func108 Z Z Z Z Z (W 2 Z (AS Z (AO.aO (l:=a1) Z Z Z Z pJ Z Z (U 1 Z (AS Z (AO.aO (l:=b1) Z Z Z Z pJ Z Z (J 1 Z (C hf Z (fun h1 hf=>?_) fun h1 hf=>?_))))))))
 · cases hf; exact M 1 Z (Y Z h)
 refine V 1 Z (yZ (fun i1=>[(0,.list (List.map aj.cells a1)),(1,.list (List.map aj.cells b1)),(5,iP i1)]) (fun i1=>[]) (fun eY i1=>fq a1 b1 eY i1=some r0) BIG 0 Z Z hf (fun _ hz=>dN hz) ?_); intro eY i1 hf; rw [fq] at hf; refine W 2 Z (AS Z (AO.aO (l:=a1) Z Z Z Z pJ Z Z (J 1 Z (C hf Z (fun h2 hf=>?_) fun h2 hf=>?_))))
 ·
  refine V 0 Z (AW.draw 9 mixed (by kernel_rfl) Z ?_); refine Ev.cs aZ 2 Z ?_; refine B1 hf fun e1 h3 hf=>Ev.cons Z Z Z (AO.bC h3 Z Z Z Z pJ (aj.ay _) Z zg) (Ev.cs aZ 3 Z ?_); refine B1 hf fun e2 h4 hf=>Ev.cons Z Z Z (AO.bC h4 Z Z Z Z pJ (aj.ay _) Z zg) (Ev.cs aZ 1 Z (Ev.cons Z Z Z (AO.jG Z Hr Z Z (FI e1 e2) Z zg) (Ev.nil ?_))); show AR _ _ _ _ _ _ _ _; refine J 0 Z (C hf Z (fun h5 hf=>?_) fun h5 hf=>?_)
  · cases hf; exact M 1 Z (Y Z h)
  exact M 3 Z ⟨(fU (i1 + 1)),Z,Z,Z,hf⟩
 cases hf; exact M 1 Z (Y Z h)
theorem BL (a1:List ah) (b1:List ah) {r0:Bool} (hf:nZ a1 b1=some r0) (h:Q (.ret (.bool r0)) τ):PC 109 [.list (List.map ah.cells a1),.list (List.map ah.cells b1)] τ Q:=by
 unfold nZ at hf; refine BN 26 [.tmp 4] [0,1] Tryz.func109 Z Z Z Z Z (W 2 Z (AS Z (AO.aO (l:=a1) Z Z Z Z vw Z Z (U 1 Z (AS Z (AO.aO (l:=b1) Z Z Z Z vw Z Z (J 1 Z (C hf Z (fun h1 hf=>?_) fun h1 hf=>?_))))))))
 · cases hf; exact M 1 Z (Y Z h)
 refine V 1 Z (yZ (fun i1=>[(0,.list (List.map ah.cells a1)),(1,.list (List.map ah.cells b1)),(5,iP i1)]) (fun i1=>[]) (fun eY i1=>iw a1 b1 eY i1=some r0) BIG 0 Z Z hf (fun _ hz=>dN hz) ?_); intro eY i1 hf; rw [iw] at hf; refine W 2 Z (AS Z (AO.aO (l:=a1) Z Z Z Z vw Z Z (J 1 Z (C hf Z (fun h2 hf=>?_) fun h2 hf=>?_))))
 ·
  refine V 0 Z (AW.draw 9 mixed (by kernel_rfl) Z ?_); refine Ev.cs aZ 2 Z ?_; refine B1 hf fun e1 h3 hf=>Ev.cons Z Z Z (AO.bC h3 Z Z Z Z vw (ah.ay _) Z zg) (Ev.cs aZ 3 Z ?_); refine B1 hf fun e2 h4 hf=>Ev.cons Z Z Z (AO.bC h4 Z Z Z Z vw (ah.ay _) Z zg) (Ev.cs aZ 1 Z (Ev.cons Z Z Z (AO.jG Z Ho Z Z (FE e1 e2) Z zg) (Ev.nil ?_))); show AR _ _ _ _ _ _ _ _; refine J 0 Z (C hf Z (fun h5 hf=>?_) fun h5 hf=>?_)
  · cases hf; exact M 1 Z (Y Z h)
  exact M 3 Z ⟨(fU (i1 + 1)),Z,Z,Z,hf⟩
 cases hf; exact M 1 Z (Y Z h)
theorem pK (a1:aJ) (b1:aJ) {r0:Bool} (hf:jo a1 b1=some r0) (h:Q (.ret (.bool r0)) τ):PC 66 [.agg (mZ a1),.agg (mZ b1)] τ Q:=by
 unfold jo at hf; refine BN 45 [.tmp 4] [0,1] Tryz.func66 Z Z Z Z Z (W 9 Z (An 6 10 16 [2,3] (a1.bU == b1.bU) Z Z Z Z (U 1 Z (An 6 17 23 [2,3] (a1.child == b1.child) Z Z Z Z ?_)))); refine B1 hf fun b2 h4 hf=>U 1 Z (AR.dO 6 24 30 true [2,3] b2 Z Z (fun h3=>?_) (fun h3=>?_) ?_)
 · refine IT 24 h3 h4 Z fun h4=>?_; refine BR h4 fun x1 h5 h4=>?_; refine U 4 Z (GO Z (AO.call Z _ Z Z Bo (l8 _ _ h5 ?_))); cases h4; exact eG 1 Z (En [30,2,3] Z)
 · refine IF 24 h3 h4 Z fun h4=>?_; cases h4; exact eG 6 Z (En [30,2,3] Z)
 refine B1 hf fun b3 h7 hf=>U 1 Z (AR.dO 6 31 37 true [2,3] b3 Z Z (fun h6=>?_) (fun h6=>?_) ?_)
 · refine IT 31 h6 h7 Z fun h7=>?_; refine BR h7 fun x2 h8 h7=>?_; refine U 4 Z (GO Z (AO.call Z _ Z Z Bo (l8 _ _ h8 ?_))); cases h7; exact eG 1 Z (En [37,2,3] Z)
 · refine IF 31 h6 h7 Z fun h7=>?_; cases h7; exact eG 6 Z (En [37,2,3] Z)
 refine BR hf fun b4 h10 hf=>?_; refine U 1 Z (AR.dO 6 38 44 true [] b4 Z Z (fun h9=>?_) (fun h9=>?_) ?_)
 · refine IT 38 h9 h10 Z fun h10=>?_; refine BR h10 fun x3 h11 h10=>?_; refine U 4 Z (GO Z (AO.call Z _ Z Z GI (BL _ _ h11 ?_))); cases h10; exact eG 1 Z (En [44] Z)
 · refine IF 38 h9 h10 Z fun h10=>?_; cases h10; exact eG 6 Z (En [44] Z)
 cases hf; exact N 1 Z (Y Z h)
end Go.Proofs.YtdgljcpjcgldfaaGreatDoor
