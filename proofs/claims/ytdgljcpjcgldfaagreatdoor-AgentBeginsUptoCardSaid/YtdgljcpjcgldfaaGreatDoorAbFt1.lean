/- Proved here: nothing: the functional texts of the functions that the statements reach, as our program wrote them. -/
import Derived.Test.YtdgljcpjcgldfaaGreatDoorAbWords
set_option linter.unusedVariables false
set_option linter.unusedSimpArgs false
set_option linter.unusedSectionVars false
namespace Go.Ft
open Go
structure iA where
 text:Str
 form:Int
 deriving DecidableEq
structure aP where
 form:Int
 name:Str
 n:Int
 deriving DecidableEq
structure av where
 iD:Str
 labels:List Str
 trust:Int
 slots:Int
 bq:Bool
 phase:Int
 jv:Int
 dw:Int
 tokens:List Int
 deriving DecidableEq
structure bf where
 run:Str
 job:Str
 deriving DecidableEq
structure bE where
 token:Int
 ref:bf
 attempt:Int
 worker:Str
 granted:Int
 expires:Int
 deriving DecidableEq
structure aD where
 kind:Int
 jN:Bool
 ng:Int
 mP:Str
 jk:List aD
 keys:List Str
structure aL where
 kind:Int
 name:Str
 value:aD
 args:List aL
 keys:List Str
structure bK where
 name:Str
 value:aD
structure bI where
 op:Int
 name:Str
 text:Str
 n:Int
 deriving DecidableEq
structure bV where
 max:Int
 classes:List Int
 base:Int
 cap:Int
 deriving DecidableEq
structure aJ where
 key:Str
 restore:List Str
 files:List Str
 deriving DecidableEq
structure aZ where
 dJ:Int
 dI:List Str
 iw:Int
 deriving DecidableEq
structure eF where
 iD:Str
 needs:List Str
 when:aL
 vars:List bK
 steps:List bI
 labels:List Str
 group:Str
 policy:Int
 priority:Int
 cost:Int
 timeout:Int
 retry:bV
 inputs:List Str
 uses:List Str
 outputs:List Str
 caches:List aJ
 bL:List Str
 environment:Str
 jY:Bool
 gate:aZ
 tests:List Str
 l5:Int
 jA:Int
 gI:Bool
 child:Bool
structure aM where
 project:Str
 ref:Str
 fork:Bool
 deriving DecidableEq
structure aF where
 name:Str
 text:Str
 level:Int
 refs:List Str
 environments:List Str
 deriving DecidableEq
structure ah where
 name:Str
 digest:BitVec 64
 size:Int
 deriving DecidableEq
structure bU where
 project:Str
 trust:Int
 ref:Str
 deriving DecidableEq
structure aC where
 scope:bU
 key:Str
 digest:BitVec 64
 size:Int
 created:Int
 used:Int
 deriving DecidableEq
structure aH where
 name:Str
 time:Int
 deriving DecidableEq
structure aI where
 bQ:bE
 job:eF
 origin:aM
 bL:List aF
 artifacts:List ah
 entries:List aC
 tests:List Str
 times:List aH
 ignored:List Str
structure ak where
 name:Str
 status:Int
 time:Int
 deriving DecidableEq
structure aS where
 status:Int
 eD:Int
 inputs:List ah
 outputs:List ah
 tests:List ak
 child:Str
 deriving DecidableEq
structure bB where
 result:aS
 log:Str
 time:Int
 saves:List aC
 deriving DecidableEq
structure aV where
 work:aI
 began:Int
 done:Int
 effect:bB
 sent:Int
 saved:Int
structure aX where
 worker:av
 up:Bool
 joined:Bool
 jv:Int
 heard:Int
 dw:Int
 tasks:List aV
structure aB where
 form:Int
 name:Str
 n:Int
 deriving DecidableEq
structure Bj where
 x:Int
 y:Int
 signed:Bool
 code:UInt8
 deriving DecidableEq
structure gy where
 x:Int
 y:Int
 signed:Bool
 code:UInt8
 deriving DecidableEq
structure Bh where
 msg:Str
 addr:BitVec 64
 deriving DecidableEq
structure dO where
 msg:Str
 addr:BitVec 64
 deriving DecidableEq
structure Bg where
 iD:Str
 labels:List Str
 trust:Int
 slots:Int
 bq:Bool
 phase:Int
 jv:Int
 dw:Int
 tokens:List Int
 deriving DecidableEq
structure Bf where
 worker:av
 up:Bool
 joined:Bool
 jv:Int
 heard:Int
 dw:Int
 tasks:List aV
structure Bd where
 run:Str
 job:Str
 deriving DecidableEq
structure Bc where
 project:Str
 ref:Str
 fork:Bool
 deriving DecidableEq
structure Bb where
 name:Str
 text:Str
 level:Int
 refs:List Str
 environments:List Str
 deriving DecidableEq
structure Ba where
 project:Str
 trust:Int
 ref:Str
 deriving DecidableEq
structure A_ where
 scope:bU
 key:Str
 digest:BitVec 64
 size:Int
 created:Int
 used:Int
 deriving DecidableEq
structure A9 where
 status:Int
 eD:Int
 inputs:List ah
 outputs:List ah
 tests:List ak
 child:Str
 deriving DecidableEq
structure A8 where
 kind:Int
 name:Str
 ref:bf
 n:Int
 token:Int
 eD:Int
 text:Str
 origin:aM
 args:List bK
 worker:av
 secret:aF
 entry:aC
 result:aS
structure n_ where
 kind:Int
 name:Str
 ref:bf
 n:Int
 token:Int
 eD:Int
 text:Str
 origin:aM
 args:List bK
 worker:av
 secret:aF
 entry:aC
 result:aS
structure AZ where
 code:Int
 text:Str
 n:Int
 work:List aI
structure sF where
 code:Int
 text:Str
 n:Int
 work:List aI
structure AY where
 token:Int
 ref:bf
 attempt:Int
 worker:Str
 granted:Int
 expires:Int
 deriving DecidableEq
structure AV where
 kind:Int
 jN:Bool
 ng:Int
 mP:Str
 jk:List aD
 keys:List Str
structure AU where
 kind:Int
 name:Str
 value:aD
 args:List aL
 keys:List Str
structure AQ where
 max:Int
 classes:List Int
 base:Int
 cap:Int
 deriving DecidableEq
structure AP where
 dJ:Int
 dI:List Str
 iw:Int
 deriving DecidableEq
structure AL where
 iD:Str
 needs:List Str
 when:aL
 vars:List bK
 steps:List bI
 labels:List Str
 group:Str
 policy:Int
 priority:Int
 cost:Int
 timeout:Int
 retry:bV
 inputs:List Str
 uses:List Str
 outputs:List Str
 caches:List aJ
 bL:List Str
 environment:Str
 jY:Bool
 gate:aZ
 tests:List Str
 l5:Int
 jA:Int
 gI:Bool
 child:Bool
structure AJ where
 bQ:bE
 job:eF
 origin:aM
 bL:List aF
 artifacts:List ah
 entries:List aC
 tests:List Str
 times:List aH
 ignored:List Str
structure bO where
 path:Str
 digest:BitVec 64
 deriving DecidableEq
structure AB where
 files:List bO
 artifacts:List ah
 bL:List aF
 caches:List aC
 keys:List Str
 tests:List Str
 times:List aH
 ignored:List Str
 attempt:Int
 deriving DecidableEq
structure u_ where
 files:List bO
 artifacts:List ah
 bL:List aF
 caches:List aC
 keys:List Str
 tests:List Str
 times:List aH
 ignored:List Str
 attempt:Int
 deriving DecidableEq
structure AA where
 result:aS
 log:Str
 time:Int
 saves:List aC
 deriving DecidableEq
structure Az where
 work:aI
 began:Int
 done:Int
 effect:bB
 sent:Int
 saved:Int
structure Ay where
 path:Str
 digest:BitVec 64
 deriving DecidableEq
structure Aw where
 key:Str
 restore:List Str
 files:List Str
 deriving DecidableEq
structure Av where
 name:Str
 digest:BitVec 64
 size:Int
 deriving DecidableEq
structure Au where
 name:Str
 time:Int
 deriving DecidableEq
structure Ar where
 origin:aM
 files:List bO
 deriving DecidableEq
structure vg where
 origin:aM
 files:List bO
 deriving DecidableEq
structure Aq where
 form:Int
 name:Str
 n:Int
 deriving DecidableEq
structure Ap where
 form:Int
 name:Str
 n:Int
 deriving DecidableEq
structure Ao where
 op:Int
 name:Str
 text:Str
 n:Int
 deriving DecidableEq
structure Am where
 name:Str
 status:Int
 time:Int
 deriving DecidableEq
structure Al where
 name:Str
 value:aD
structure Nn where
 set:List (BitVec 64)
 many:Bool
 literal:Bool
 char:UInt8
 deriving DecidableEq
structure Jh where
 set:List (BitVec 64)
 many:Bool
 literal:Bool
 char:UInt8
 deriving DecidableEq
structure Ak where
 text:Str
 NJ:Bool
 expr:aL
structure sG where
 text:Str
 NJ:Bool
 expr:aL
structure Aj where
 kind:Int
 text:Str
 at_:Int
 deriving DecidableEq
structure gD where
 kind:Int
 text:Str
 at_:Int
 deriving DecidableEq
structure Ai where
 code:Int
 deriving DecidableEq
structure mH where
 code:Int
 deriving DecidableEq
structure Ah where
 ts:List gD
 at_:Int
 deriving DecidableEq
structure kT where
 ts:List gD
 at_:Int
 deriving DecidableEq
structure Ag where
 at_:Int
 code:Int
 deriving DecidableEq
structure jZ where
 at_:Int
 code:Int
 deriving DecidableEq
structure Af where
 lo:UInt8
 hi:UInt8
 deriving DecidableEq
structure iX where
 lo:UInt8
 hi:UInt8
 deriving DecidableEq
structure Nl where
 half:List (BitVec 64)
 neg:Bool
 deriving DecidableEq
structure Kk where
 half:List (BitVec 64)
 neg:Bool
 deriving DecidableEq
structure Nk where
 func:Str
 num:Str
 err:Option Nat
structure Fp where
 func:Str
 num:Str
 err:Option Nat
structure Ae where
 s:Str
 deriving DecidableEq
structure gQ where
 s:Str
 deriving DecidableEq
def ah.Bo (a b:ah):Bool:=((a.name == b.name) && (((a.digest.toNat:Int) == (b.digest.toNat:Int)) && ((a.size == b.size) && true)))
def aC.Bo (a b:aC):Bool:=(((a.scope.project == b.scope.project) && ((a.scope.trust == b.scope.trust) && ((a.scope.ref == b.scope.ref) && true))) && ((a.key == b.key) && (((a.digest.toNat:Int) == (b.digest.toNat:Int)) && ((a.size == b.size) && ((a.created == b.created) && ((a.used == b.used) && true))))))
def aH.Bo (a b:aH):Bool:=((a.name == b.name) && ((a.time == b.time) && true))
def bE.Bo (a b:bE):Bool:=((a.token == b.token) && (((a.ref.run == b.ref.run) && ((a.ref.job == b.ref.job) && true)) && ((a.attempt == b.attempt) && ((a.worker == b.worker) && ((a.granted == b.granted) && ((a.expires == b.expires) && true))))))
def aM.Bo (a b:aM):Bool:=((a.project == b.project) && ((a.ref == b.ref) && ((a.fork == b.fork) && true)))
def ak.Bo (a b:ak):Bool:=((a.name == b.name) && ((a.status == b.status) && ((a.time == b.time) && true)))
def iA.bulk (x:iA):Nat:=(x.text.length + 1) + 1 + 1
def iA.wf (x:iA):Prop:=True∧(-9223372036854775808≤x.form∧x.form≤9223372036854775807)
def aP.bulk (x:aP):Nat:=1 + (x.name.length + 1) + 1 + 1
def aP.wf (x:aP):Prop:=(-9223372036854775808≤x.form∧x.form≤9223372036854775807)∧True∧(-9223372036854775808≤x.n∧x.n≤9223372036854775807)
def av.bulk (x:av):Nat:=(x.iD.length + 1) + ((List.map (fun z:Str=>(z.length + 1)) x.labels).sum + 1) + 1 + 1 + 1 + 1 + 1 + 1 + ((List.map (fun z:Int=>1) x.tokens).sum + 1) + 1
def av.wf (x:av):Prop:=True∧(∀ z∈x.labels,True)∧(-9223372036854775808≤x.trust∧x.trust≤9223372036854775807)∧(-9223372036854775808≤x.slots∧x.slots≤9223372036854775807)∧True∧(-9223372036854775808≤x.phase∧x.phase≤9223372036854775807)∧(-9223372036854775808≤x.jv∧x.jv≤9223372036854775807)∧(-9223372036854775808≤x.dw∧x.dw≤9223372036854775807)∧(∀ z∈x.tokens,(-9223372036854775808≤z∧z≤9223372036854775807))
def bf.bulk (x:bf):Nat:=(x.run.length + 1) + (x.job.length + 1) + 1
def bf.wf (x:bf):Prop:=True∧True
def bE.bulk (x:bE):Nat:=1 + (bf.bulk x.ref) + 1 + (x.worker.length + 1) + 1 + 1 + 1
def bE.wf (x:bE):Prop:=(-9223372036854775808≤x.token∧x.token≤9223372036854775807)∧(bf.wf x.ref)∧(-9223372036854775808≤x.attempt∧x.attempt≤9223372036854775807)∧True∧(-9223372036854775808≤x.granted∧x.granted≤9223372036854775807)∧(-9223372036854775808≤x.expires∧x.expires≤9223372036854775807)
mutual
def aD.bulk :aD→Nat
 | ⟨a0,a1,a2,a3,a4,a5⟩=>1 + 1 + 1 + (a3.length + 1) + (aD.nD a4 + 1) + ((List.map (fun z:Str=>(z.length + 1)) a5).sum + 1) + 1
def aD.nD :List aD→Nat
 | []=>0
 | x :: xs=>aD.bulk x + aD.nD xs
end
theorem aD.xE :∀ l:List aD,aD.nD l=(l.map aD.bulk).sum
 | []=>rfl
 | x :: l=>by simp only [aD.nD,List.map_cons,List.sum_cons,aD.xE l]
theorem aD.Eh (x:aD):aD.bulk x=1 + 1 + 1 + (x.mP.length + 1) + (aD.nD x.jk + 1) + ((List.map (fun z:Str=>(z.length + 1)) x.keys).sum + 1) + 1:=by cases x; rfl
mutual
def aL.bulk :aL→Nat
 | ⟨a0,a1,a2,a3,a4⟩=>1 + (a1.length + 1) + (aD.bulk a2) + (aL.nD a3 + 1) + ((List.map (fun z:Str=>(z.length + 1)) a4).sum + 1) + 1
def aL.nD :List aL→Nat
 | []=>0
 | x :: xs=>aL.bulk x + aL.nD xs
end
theorem aL.xE :∀ l:List aL,aL.nD l=(l.map aL.bulk).sum
 | []=>rfl
 | x :: l=>by simp only [aL.nD,List.map_cons,List.sum_cons,aL.xE l]
theorem aL.Eh (x:aL):aL.bulk x=1 + (x.name.length + 1) + (aD.bulk x.value) + (aL.nD x.args + 1) + ((List.map (fun z:Str=>(z.length + 1)) x.keys).sum + 1) + 1:=by cases x; rfl
def bK.bulk (x:bK):Nat:=(x.name.length + 1) + (aD.bulk x.value) + 1
def bK.wf (x:bK):Prop:=True∧True
def bI.bulk (x:bI):Nat:=1 + (x.name.length + 1) + (x.text.length + 1) + 1 + 1
def bI.wf (x:bI):Prop:=(-9223372036854775808≤x.op∧x.op≤9223372036854775807)∧True∧True∧(-9223372036854775808≤x.n∧x.n≤9223372036854775807)
def bV.bulk (x:bV):Nat:=1 + ((List.map (fun z:Int=>1) x.classes).sum + 1) + 1 + 1 + 1
def bV.wf (x:bV):Prop:=(-9223372036854775808≤x.max∧x.max≤9223372036854775807)∧(∀ z∈x.classes,(-9223372036854775808≤z∧z≤9223372036854775807))∧(-9223372036854775808≤x.base∧x.base≤9223372036854775807)∧(-9223372036854775808≤x.cap∧x.cap≤9223372036854775807)
def aJ.bulk (x:aJ):Nat:=(x.key.length + 1) + ((List.map (fun z:Str=>(z.length + 1)) x.restore).sum + 1) + ((List.map (fun z:Str=>(z.length + 1)) x.files).sum + 1) + 1
def aJ.wf (x:aJ):Prop:=True∧(∀ z∈x.restore,True)∧(∀ z∈x.files,True)
def aZ.bulk (x:aZ):Nat:=1 + ((List.map (fun z:Str=>(z.length + 1)) x.dI).sum + 1) + 1 + 1
def aZ.wf (x:aZ):Prop:=(-9223372036854775808≤x.dJ∧x.dJ≤9223372036854775807)∧(∀ z∈x.dI,True)∧(-9223372036854775808≤x.iw∧x.iw≤9223372036854775807)
def eF.bulk (x:eF):Nat:=(x.iD.length + 1) + ((List.map (fun z:Str=>(z.length + 1)) x.needs).sum + 1) + (aL.bulk x.when) + ((List.map (fun z:bK=>(bK.bulk z)) x.vars).sum + 1) + ((List.map (fun z:bI=>(bI.bulk z)) x.steps).sum + 1) + ((List.map (fun z:Str=>(z.length + 1)) x.labels).sum + 1) + (x.group.length + 1) + 1 + 1 + 1 + 1 + (bV.bulk x.retry) + ((List.map (fun z:Str=>(z.length + 1)) x.inputs).sum + 1) + ((List.map (fun z:Str=>(z.length + 1)) x.uses).sum + 1) + ((List.map (fun z:Str=>(z.length + 1)) x.outputs).sum + 1) + ((List.map (fun z:aJ=>(aJ.bulk z)) x.caches).sum + 1) + ((List.map (fun z:Str=>(z.length + 1)) x.bL).sum + 1) + (x.environment.length + 1) + 1 + (aZ.bulk x.gate) + ((List.map (fun z:Str=>(z.length + 1)) x.tests).sum + 1) + 1 + 1 + 1 + 1 + 1
def eF.wf (x:eF):Prop:=True∧(∀ z∈x.needs,True)∧True∧(∀ z∈x.vars,(bK.wf z))∧(∀ z∈x.steps,(bI.wf z))∧(∀ z∈x.labels,True)∧True∧(-9223372036854775808≤x.policy∧x.policy≤9223372036854775807)∧(-9223372036854775808≤x.priority∧x.priority≤9223372036854775807)∧(-9223372036854775808≤x.cost∧x.cost≤9223372036854775807)∧(-9223372036854775808≤x.timeout∧x.timeout≤9223372036854775807)∧(bV.wf x.retry)∧(∀ z∈x.inputs,True)∧(∀ z∈x.uses,True)∧(∀ z∈x.outputs,True)∧(∀ z∈x.caches,(aJ.wf z))∧(∀ z∈x.bL,True)∧True∧True∧(aZ.wf x.gate)∧(∀ z∈x.tests,True)∧(-9223372036854775808≤x.l5∧x.l5≤9223372036854775807)∧(-9223372036854775808≤x.jA∧x.jA≤9223372036854775807)∧True∧True
def aM.bulk (x:aM):Nat:=(x.project.length + 1) + (x.ref.length + 1) + 1 + 1
def aM.wf (x:aM):Prop:=True∧True∧True
def aF.bulk (x:aF):Nat:=(x.name.length + 1) + (x.text.length + 1) + 1 + ((List.map (fun z:Str=>(z.length + 1)) x.refs).sum + 1) + ((List.map (fun z:Str=>(z.length + 1)) x.environments).sum + 1) + 1
def aF.wf (x:aF):Prop:=True∧True∧(-9223372036854775808≤x.level∧x.level≤9223372036854775807)∧(∀ z∈x.refs,True)∧(∀ z∈x.environments,True)
def ah.bulk (x:ah):Nat:=(x.name.length + 1) + 1 + 1 + 1
def ah.wf (x:ah):Prop:=True∧True∧(-9223372036854775808≤x.size∧x.size≤9223372036854775807)
def bU.bulk (x:bU):Nat:=(x.project.length + 1) + 1 + (x.ref.length + 1) + 1
def bU.wf (x:bU):Prop:=True∧(-9223372036854775808≤x.trust∧x.trust≤9223372036854775807)∧True
def aC.bulk (x:aC):Nat:=(bU.bulk x.scope) + (x.key.length + 1) + 1 + 1 + 1 + 1 + 1
def aC.wf (x:aC):Prop:=(bU.wf x.scope)∧True∧True∧(-9223372036854775808≤x.size∧x.size≤9223372036854775807)∧(-9223372036854775808≤x.created∧x.created≤9223372036854775807)∧(-9223372036854775808≤x.used∧x.used≤9223372036854775807)
def aH.bulk (x:aH):Nat:=(x.name.length + 1) + 1 + 1
def aH.wf (x:aH):Prop:=True∧(-9223372036854775808≤x.time∧x.time≤9223372036854775807)
def aI.bulk (x:aI):Nat:=(bE.bulk x.bQ) + (eF.bulk x.job) + (aM.bulk x.origin) + ((List.map (fun z:aF=>(aF.bulk z)) x.bL).sum + 1) + ((List.map (fun z:ah=>(ah.bulk z)) x.artifacts).sum + 1) + ((List.map (fun z:aC=>(aC.bulk z)) x.entries).sum + 1) + ((List.map (fun z:Str=>(z.length + 1)) x.tests).sum + 1) + ((List.map (fun z:aH=>(aH.bulk z)) x.times).sum + 1) + ((List.map (fun z:Str=>(z.length + 1)) x.ignored).sum + 1) + 1
def aI.wf (x:aI):Prop:=(bE.wf x.bQ)∧(eF.wf x.job)∧(aM.wf x.origin)∧(∀ z∈x.bL,(aF.wf z))∧(∀ z∈x.artifacts,(ah.wf z))∧(∀ z∈x.entries,(aC.wf z))∧(∀ z∈x.tests,True)∧(∀ z∈x.times,(aH.wf z))∧(∀ z∈x.ignored,True)
def ak.bulk (x:ak):Nat:=(x.name.length + 1) + 1 + 1 + 1
def ak.wf (x:ak):Prop:=True∧(-9223372036854775808≤x.status∧x.status≤9223372036854775807)∧(-9223372036854775808≤x.time∧x.time≤9223372036854775807)
def aS.bulk (x:aS):Nat:=1 + 1 + ((List.map (fun z:ah=>(ah.bulk z)) x.inputs).sum + 1) + ((List.map (fun z:ah=>(ah.bulk z)) x.outputs).sum + 1) + ((List.map (fun z:ak=>(ak.bulk z)) x.tests).sum + 1) + (x.child.length + 1) + 1
def aS.wf (x:aS):Prop:=(-9223372036854775808≤x.status∧x.status≤9223372036854775807)∧(-9223372036854775808≤x.eD∧x.eD≤9223372036854775807)∧(∀ z∈x.inputs,(ah.wf z))∧(∀ z∈x.outputs,(ah.wf z))∧(∀ z∈x.tests,(ak.wf z))∧True
def bB.bulk (x:bB):Nat:=(aS.bulk x.result) + (x.log.length + 1) + 1 + ((List.map (fun z:aC=>(aC.bulk z)) x.saves).sum + 1) + 1
def bB.wf (x:bB):Prop:=(aS.wf x.result)∧True∧(-9223372036854775808≤x.time∧x.time≤9223372036854775807)∧(∀ z∈x.saves,(aC.wf z))
def aV.bulk (x:aV):Nat:=(aI.bulk x.work) + 1 + 1 + (bB.bulk x.effect) + 1 + 1 + 1
def aV.wf (x:aV):Prop:=(aI.wf x.work)∧(-9223372036854775808≤x.began∧x.began≤9223372036854775807)∧(-9223372036854775808≤x.done∧x.done≤9223372036854775807)∧(bB.wf x.effect)∧(-9223372036854775808≤x.sent∧x.sent≤9223372036854775807)∧(-9223372036854775808≤x.saved∧x.saved≤9223372036854775807)
def aX.bulk (x:aX):Nat:=(av.bulk x.worker) + 1 + 1 + 1 + 1 + 1 + ((List.map (fun z:aV=>(aV.bulk z)) x.tasks).sum + 1) + 1
def aX.wf (x:aX):Prop:=(av.wf x.worker)∧True∧True∧(-9223372036854775808≤x.jv∧x.jv≤9223372036854775807)∧(-9223372036854775808≤x.heard∧x.heard≤9223372036854775807)∧(-9223372036854775808≤x.dw∧x.dw≤9223372036854775807)∧(∀ z∈x.tasks,(aV.wf z))
def aB.bulk (x:aB):Nat:=1 + (x.name.length + 1) + 1 + 1
def aB.wf (x:aB):Prop:=(-9223372036854775808≤x.form∧x.form≤9223372036854775807)∧True∧(-9223372036854775808≤x.n∧x.n≤9223372036854775807)
def Bj.bulk (x:Bj):Nat:=1 + 1 + 1 + 1 + 1
def Bj.wf (x:Bj):Prop:=(-9223372036854775808≤x.x∧x.x≤9223372036854775807)∧(-9223372036854775808≤x.y∧x.y≤9223372036854775807)∧True∧True
def gy.bulk (x:gy):Nat:=1 + 1 + 1 + 1 + 1
def gy.wf (x:gy):Prop:=(-9223372036854775808≤x.x∧x.x≤9223372036854775807)∧(-9223372036854775808≤x.y∧x.y≤9223372036854775807)∧True∧True
def Bh.bulk (x:Bh):Nat:=(x.msg.length + 1) + 1 + 1
def Bh.wf (x:Bh):Prop:=True∧True
def dO.bulk (x:dO):Nat:=(x.msg.length + 1) + 1 + 1
def dO.wf (x:dO):Prop:=True∧True
def Bg.bulk (x:Bg):Nat:=(x.iD.length + 1) + ((List.map (fun z:Str=>(z.length + 1)) x.labels).sum + 1) + 1 + 1 + 1 + 1 + 1 + 1 + ((List.map (fun z:Int=>1) x.tokens).sum + 1) + 1
def Bg.wf (x:Bg):Prop:=True∧(∀ z∈x.labels,True)∧(-9223372036854775808≤x.trust∧x.trust≤9223372036854775807)∧(-9223372036854775808≤x.slots∧x.slots≤9223372036854775807)∧True∧(-9223372036854775808≤x.phase∧x.phase≤9223372036854775807)∧(-9223372036854775808≤x.jv∧x.jv≤9223372036854775807)∧(-9223372036854775808≤x.dw∧x.dw≤9223372036854775807)∧(∀ z∈x.tokens,(-9223372036854775808≤z∧z≤9223372036854775807))
def Bf.bulk (x:Bf):Nat:=(av.bulk x.worker) + 1 + 1 + 1 + 1 + 1 + ((List.map (fun z:aV=>(aV.bulk z)) x.tasks).sum + 1) + 1
def Bf.wf (x:Bf):Prop:=(av.wf x.worker)∧True∧True∧(-9223372036854775808≤x.jv∧x.jv≤9223372036854775807)∧(-9223372036854775808≤x.heard∧x.heard≤9223372036854775807)∧(-9223372036854775808≤x.dw∧x.dw≤9223372036854775807)∧(∀ z∈x.tasks,(aV.wf z))
def Bd.bulk (x:Bd):Nat:=(x.run.length + 1) + (x.job.length + 1) + 1
def Bd.wf (x:Bd):Prop:=True∧True
def Bc.bulk (x:Bc):Nat:=(x.project.length + 1) + (x.ref.length + 1) + 1 + 1
def Bc.wf (x:Bc):Prop:=True∧True∧True
def Bb.bulk (x:Bb):Nat:=(x.name.length + 1) + (x.text.length + 1) + 1 + ((List.map (fun z:Str=>(z.length + 1)) x.refs).sum + 1) + ((List.map (fun z:Str=>(z.length + 1)) x.environments).sum + 1) + 1
def Bb.wf (x:Bb):Prop:=True∧True∧(-9223372036854775808≤x.level∧x.level≤9223372036854775807)∧(∀ z∈x.refs,True)∧(∀ z∈x.environments,True)
def Ba.bulk (x:Ba):Nat:=(x.project.length + 1) + 1 + (x.ref.length + 1) + 1
def Ba.wf (x:Ba):Prop:=True∧(-9223372036854775808≤x.trust∧x.trust≤9223372036854775807)∧True
def A_.bulk (x:A_):Nat:=(bU.bulk x.scope) + (x.key.length + 1) + 1 + 1 + 1 + 1 + 1
def A_.wf (x:A_):Prop:=(bU.wf x.scope)∧True∧True∧(-9223372036854775808≤x.size∧x.size≤9223372036854775807)∧(-9223372036854775808≤x.created∧x.created≤9223372036854775807)∧(-9223372036854775808≤x.used∧x.used≤9223372036854775807)
def A9.bulk (x:A9):Nat:=1 + 1 + ((List.map (fun z:ah=>(ah.bulk z)) x.inputs).sum + 1) + ((List.map (fun z:ah=>(ah.bulk z)) x.outputs).sum + 1) + ((List.map (fun z:ak=>(ak.bulk z)) x.tests).sum + 1) + (x.child.length + 1) + 1
def A9.wf (x:A9):Prop:=(-9223372036854775808≤x.status∧x.status≤9223372036854775807)∧(-9223372036854775808≤x.eD∧x.eD≤9223372036854775807)∧(∀ z∈x.inputs,(ah.wf z))∧(∀ z∈x.outputs,(ah.wf z))∧(∀ z∈x.tests,(ak.wf z))∧True
def A8.bulk (x:A8):Nat:=1 + (x.name.length + 1) + (bf.bulk x.ref) + 1 + 1 + 1 + (x.text.length + 1) + (aM.bulk x.origin) + ((List.map (fun z:bK=>(bK.bulk z)) x.args).sum + 1) + (av.bulk x.worker) + (aF.bulk x.secret) + (aC.bulk x.entry) + (aS.bulk x.result) + 1
def A8.wf (x:A8):Prop:=(-9223372036854775808≤x.kind∧x.kind≤9223372036854775807)∧True∧(bf.wf x.ref)∧(-9223372036854775808≤x.n∧x.n≤9223372036854775807)∧(-9223372036854775808≤x.token∧x.token≤9223372036854775807)∧(-9223372036854775808≤x.eD∧x.eD≤9223372036854775807)∧True∧(aM.wf x.origin)∧(∀ z∈x.args,(bK.wf z))∧(av.wf x.worker)∧(aF.wf x.secret)∧(aC.wf x.entry)∧(aS.wf x.result)
def n_.bulk (x:n_):Nat:=1 + (x.name.length + 1) + (bf.bulk x.ref) + 1 + 1 + 1 + (x.text.length + 1) + (aM.bulk x.origin) + ((List.map (fun z:bK=>(bK.bulk z)) x.args).sum + 1) + (av.bulk x.worker) + (aF.bulk x.secret) + (aC.bulk x.entry) + (aS.bulk x.result) + 1
def n_.wf (x:n_):Prop:=(-9223372036854775808≤x.kind∧x.kind≤9223372036854775807)∧True∧(bf.wf x.ref)∧(-9223372036854775808≤x.n∧x.n≤9223372036854775807)∧(-9223372036854775808≤x.token∧x.token≤9223372036854775807)∧(-9223372036854775808≤x.eD∧x.eD≤9223372036854775807)∧True∧(aM.wf x.origin)∧(∀ z∈x.args,(bK.wf z))∧(av.wf x.worker)∧(aF.wf x.secret)∧(aC.wf x.entry)∧(aS.wf x.result)
def AZ.bulk (x:AZ):Nat:=1 + (x.text.length + 1) + 1 + ((List.map (fun z:aI=>(aI.bulk z)) x.work).sum + 1) + 1
def AZ.wf (x:AZ):Prop:=(-9223372036854775808≤x.code∧x.code≤9223372036854775807)∧True∧(-9223372036854775808≤x.n∧x.n≤9223372036854775807)∧(∀ z∈x.work,(aI.wf z))
def sF.bulk (x:sF):Nat:=1 + (x.text.length + 1) + 1 + ((List.map (fun z:aI=>(aI.bulk z)) x.work).sum + 1) + 1
def sF.wf (x:sF):Prop:=(-9223372036854775808≤x.code∧x.code≤9223372036854775807)∧True∧(-9223372036854775808≤x.n∧x.n≤9223372036854775807)∧(∀ z∈x.work,(aI.wf z))
def AY.bulk (x:AY):Nat:=1 + (bf.bulk x.ref) + 1 + (x.worker.length + 1) + 1 + 1 + 1
def AY.wf (x:AY):Prop:=(-9223372036854775808≤x.token∧x.token≤9223372036854775807)∧(bf.wf x.ref)∧(-9223372036854775808≤x.attempt∧x.attempt≤9223372036854775807)∧True∧(-9223372036854775808≤x.granted∧x.granted≤9223372036854775807)∧(-9223372036854775808≤x.expires∧x.expires≤9223372036854775807)
def AV.bulk (x:AV):Nat:=1 + 1 + 1 + (x.mP.length + 1) + (aD.nD x.jk + 1) + ((List.map (fun z:Str=>(z.length + 1)) x.keys).sum + 1) + 1
def AV.wf (x:AV):Prop:=(-9223372036854775808≤x.kind∧x.kind≤9223372036854775807)∧True∧(-9223372036854775808≤x.ng∧x.ng≤9223372036854775807)∧True∧True∧(∀ z∈x.keys,True)
def AU.bulk (x:AU):Nat:=1 + (x.name.length + 1) + (aD.bulk x.value) + (aL.nD x.args + 1) + ((List.map (fun z:Str=>(z.length + 1)) x.keys).sum + 1) + 1
def AU.wf (x:AU):Prop:=(-9223372036854775808≤x.kind∧x.kind≤9223372036854775807)∧True∧True∧True∧(∀ z∈x.keys,True)
def AQ.bulk (x:AQ):Nat:=1 + ((List.map (fun z:Int=>1) x.classes).sum + 1) + 1 + 1 + 1
def AQ.wf (x:AQ):Prop:=(-9223372036854775808≤x.max∧x.max≤9223372036854775807)∧(∀ z∈x.classes,(-9223372036854775808≤z∧z≤9223372036854775807))∧(-9223372036854775808≤x.base∧x.base≤9223372036854775807)∧(-9223372036854775808≤x.cap∧x.cap≤9223372036854775807)
def AP.bulk (x:AP):Nat:=1 + ((List.map (fun z:Str=>(z.length + 1)) x.dI).sum + 1) + 1 + 1
def AP.wf (x:AP):Prop:=(-9223372036854775808≤x.dJ∧x.dJ≤9223372036854775807)∧(∀ z∈x.dI,True)∧(-9223372036854775808≤x.iw∧x.iw≤9223372036854775807)
def AL.bulk (x:AL):Nat:=(x.iD.length + 1) + ((List.map (fun z:Str=>(z.length + 1)) x.needs).sum + 1) + (aL.bulk x.when) + ((List.map (fun z:bK=>(bK.bulk z)) x.vars).sum + 1) + ((List.map (fun z:bI=>(bI.bulk z)) x.steps).sum + 1) + ((List.map (fun z:Str=>(z.length + 1)) x.labels).sum + 1) + (x.group.length + 1) + 1 + 1 + 1 + 1 + (bV.bulk x.retry) + ((List.map (fun z:Str=>(z.length + 1)) x.inputs).sum + 1) + ((List.map (fun z:Str=>(z.length + 1)) x.uses).sum + 1) + ((List.map (fun z:Str=>(z.length + 1)) x.outputs).sum + 1) + ((List.map (fun z:aJ=>(aJ.bulk z)) x.caches).sum + 1) + ((List.map (fun z:Str=>(z.length + 1)) x.bL).sum + 1) + (x.environment.length + 1) + 1 + (aZ.bulk x.gate) + ((List.map (fun z:Str=>(z.length + 1)) x.tests).sum + 1) + 1 + 1 + 1 + 1 + 1
def AL.wf (x:AL):Prop:=True∧(∀ z∈x.needs,True)∧True∧(∀ z∈x.vars,(bK.wf z))∧(∀ z∈x.steps,(bI.wf z))∧(∀ z∈x.labels,True)∧True∧(-9223372036854775808≤x.policy∧x.policy≤9223372036854775807)∧(-9223372036854775808≤x.priority∧x.priority≤9223372036854775807)∧(-9223372036854775808≤x.cost∧x.cost≤9223372036854775807)∧(-9223372036854775808≤x.timeout∧x.timeout≤9223372036854775807)∧(bV.wf x.retry)∧(∀ z∈x.inputs,True)∧(∀ z∈x.uses,True)∧(∀ z∈x.outputs,True)∧(∀ z∈x.caches,(aJ.wf z))∧(∀ z∈x.bL,True)∧True∧True∧(aZ.wf x.gate)∧(∀ z∈x.tests,True)∧(-9223372036854775808≤x.l5∧x.l5≤9223372036854775807)∧(-9223372036854775808≤x.jA∧x.jA≤9223372036854775807)∧True∧True
def AJ.bulk (x:AJ):Nat:=(bE.bulk x.bQ) + (eF.bulk x.job) + (aM.bulk x.origin) + ((List.map (fun z:aF=>(aF.bulk z)) x.bL).sum + 1) + ((List.map (fun z:ah=>(ah.bulk z)) x.artifacts).sum + 1) + ((List.map (fun z:aC=>(aC.bulk z)) x.entries).sum + 1) + ((List.map (fun z:Str=>(z.length + 1)) x.tests).sum + 1) + ((List.map (fun z:aH=>(aH.bulk z)) x.times).sum + 1) + ((List.map (fun z:Str=>(z.length + 1)) x.ignored).sum + 1) + 1
def AJ.wf (x:AJ):Prop:=(bE.wf x.bQ)∧(eF.wf x.job)∧(aM.wf x.origin)∧(∀ z∈x.bL,(aF.wf z))∧(∀ z∈x.artifacts,(ah.wf z))∧(∀ z∈x.entries,(aC.wf z))∧(∀ z∈x.tests,True)∧(∀ z∈x.times,(aH.wf z))∧(∀ z∈x.ignored,True)
def bO.bulk (x:bO):Nat:=(x.path.length + 1) + 1 + 1
def bO.wf (x:bO):Prop:=True∧True
def AB.bulk (x:AB):Nat:=((List.map (fun z:bO=>(bO.bulk z)) x.files).sum + 1) + ((List.map (fun z:ah=>(ah.bulk z)) x.artifacts).sum + 1) + ((List.map (fun z:aF=>(aF.bulk z)) x.bL).sum + 1) + ((List.map (fun z:aC=>(aC.bulk z)) x.caches).sum + 1) + ((List.map (fun z:Str=>(z.length + 1)) x.keys).sum + 1) + ((List.map (fun z:Str=>(z.length + 1)) x.tests).sum + 1) + ((List.map (fun z:aH=>(aH.bulk z)) x.times).sum + 1) + ((List.map (fun z:Str=>(z.length + 1)) x.ignored).sum + 1) + 1 + 1
def AB.wf (x:AB):Prop:=(∀ z∈x.files,(bO.wf z))∧(∀ z∈x.artifacts,(ah.wf z))∧(∀ z∈x.bL,(aF.wf z))∧(∀ z∈x.caches,(aC.wf z))∧(∀ z∈x.keys,True)∧(∀ z∈x.tests,True)∧(∀ z∈x.times,(aH.wf z))∧(∀ z∈x.ignored,True)∧(-9223372036854775808≤x.attempt∧x.attempt≤9223372036854775807)
def u_.bulk (x:u_):Nat:=((List.map (fun z:bO=>(bO.bulk z)) x.files).sum + 1) + ((List.map (fun z:ah=>(ah.bulk z)) x.artifacts).sum + 1) + ((List.map (fun z:aF=>(aF.bulk z)) x.bL).sum + 1) + ((List.map (fun z:aC=>(aC.bulk z)) x.caches).sum + 1) + ((List.map (fun z:Str=>(z.length + 1)) x.keys).sum + 1) + ((List.map (fun z:Str=>(z.length + 1)) x.tests).sum + 1) + ((List.map (fun z:aH=>(aH.bulk z)) x.times).sum + 1) + ((List.map (fun z:Str=>(z.length + 1)) x.ignored).sum + 1) + 1 + 1
def u_.wf (x:u_):Prop:=(∀ z∈x.files,(bO.wf z))∧(∀ z∈x.artifacts,(ah.wf z))∧(∀ z∈x.bL,(aF.wf z))∧(∀ z∈x.caches,(aC.wf z))∧(∀ z∈x.keys,True)∧(∀ z∈x.tests,True)∧(∀ z∈x.times,(aH.wf z))∧(∀ z∈x.ignored,True)∧(-9223372036854775808≤x.attempt∧x.attempt≤9223372036854775807)
def AA.bulk (x:AA):Nat:=(aS.bulk x.result) + (x.log.length + 1) + 1 + ((List.map (fun z:aC=>(aC.bulk z)) x.saves).sum + 1) + 1
def AA.wf (x:AA):Prop:=(aS.wf x.result)∧True∧(-9223372036854775808≤x.time∧x.time≤9223372036854775807)∧(∀ z∈x.saves,(aC.wf z))
def Az.bulk (x:Az):Nat:=(aI.bulk x.work) + 1 + 1 + (bB.bulk x.effect) + 1 + 1 + 1
def Az.wf (x:Az):Prop:=(aI.wf x.work)∧(-9223372036854775808≤x.began∧x.began≤9223372036854775807)∧(-9223372036854775808≤x.done∧x.done≤9223372036854775807)∧(bB.wf x.effect)∧(-9223372036854775808≤x.sent∧x.sent≤9223372036854775807)∧(-9223372036854775808≤x.saved∧x.saved≤9223372036854775807)
def Ay.bulk (x:Ay):Nat:=(x.path.length + 1) + 1 + 1
def Ay.wf (x:Ay):Prop:=True∧True
def Aw.bulk (x:Aw):Nat:=(x.key.length + 1) + ((List.map (fun z:Str=>(z.length + 1)) x.restore).sum + 1) + ((List.map (fun z:Str=>(z.length + 1)) x.files).sum + 1) + 1
def Aw.wf (x:Aw):Prop:=True∧(∀ z∈x.restore,True)∧(∀ z∈x.files,True)
def Av.bulk (x:Av):Nat:=(x.name.length + 1) + 1 + 1 + 1
def Av.wf (x:Av):Prop:=True∧True∧(-9223372036854775808≤x.size∧x.size≤9223372036854775807)
def Au.bulk (x:Au):Nat:=(x.name.length + 1) + 1 + 1
def Au.wf (x:Au):Prop:=True∧(-9223372036854775808≤x.time∧x.time≤9223372036854775807)
def Ar.bulk (x:Ar):Nat:=(aM.bulk x.origin) + ((List.map (fun z:bO=>(bO.bulk z)) x.files).sum + 1) + 1
def Ar.wf (x:Ar):Prop:=(aM.wf x.origin)∧(∀ z∈x.files,(bO.wf z))
def vg.bulk (x:vg):Nat:=(aM.bulk x.origin) + ((List.map (fun z:bO=>(bO.bulk z)) x.files).sum + 1) + 1
def vg.wf (x:vg):Prop:=(aM.wf x.origin)∧(∀ z∈x.files,(bO.wf z))
def Aq.bulk (x:Aq):Nat:=1 + (x.name.length + 1) + 1 + 1
def Aq.wf (x:Aq):Prop:=(-9223372036854775808≤x.form∧x.form≤9223372036854775807)∧True∧(-9223372036854775808≤x.n∧x.n≤9223372036854775807)
def Ap.bulk (x:Ap):Nat:=1 + (x.name.length + 1) + 1 + 1
def Ap.wf (x:Ap):Prop:=(-9223372036854775808≤x.form∧x.form≤9223372036854775807)∧True∧(-9223372036854775808≤x.n∧x.n≤9223372036854775807)
def Ao.bulk (x:Ao):Nat:=1 + (x.name.length + 1) + (x.text.length + 1) + 1 + 1
def Ao.wf (x:Ao):Prop:=(-9223372036854775808≤x.op∧x.op≤9223372036854775807)∧True∧True∧(-9223372036854775808≤x.n∧x.n≤9223372036854775807)
def Am.bulk (x:Am):Nat:=(x.name.length + 1) + 1 + 1 + 1
def Am.wf (x:Am):Prop:=True∧(-9223372036854775808≤x.status∧x.status≤9223372036854775807)∧(-9223372036854775808≤x.time∧x.time≤9223372036854775807)
def Al.bulk (x:Al):Nat:=(x.name.length + 1) + (aD.bulk x.value) + 1
def Al.wf (x:Al):Prop:=True∧True
def Ak.bulk (x:Ak):Nat:=(x.text.length + 1) + 1 + (aL.bulk x.expr) + 1
def Ak.wf (x:Ak):Prop:=True∧True∧True
def sG.bulk (x:sG):Nat:=(x.text.length + 1) + 1 + (aL.bulk x.expr) + 1
def sG.wf (x:sG):Prop:=True∧True∧True
def Aj.bulk (x:Aj):Nat:=1 + (x.text.length + 1) + 1 + 1
def Aj.wf (x:Aj):Prop:=(-9223372036854775808≤x.kind∧x.kind≤9223372036854775807)∧True∧(-9223372036854775808≤x.at_∧x.at_≤9223372036854775807)
def gD.bulk (x:gD):Nat:=1 + (x.text.length + 1) + 1 + 1
def gD.wf (x:gD):Prop:=(-9223372036854775808≤x.kind∧x.kind≤9223372036854775807)∧True∧(-9223372036854775808≤x.at_∧x.at_≤9223372036854775807)
def Ai.bulk (x:Ai):Nat:=1 + 1
def Ai.wf (x:Ai):Prop:=(-9223372036854775808≤x.code∧x.code≤9223372036854775807)
def mH.bulk (x:mH):Nat:=1 + 1
def mH.wf (x:mH):Prop:=(-9223372036854775808≤x.code∧x.code≤9223372036854775807)
def Ah.bulk (x:Ah):Nat:=((List.map (fun z:gD=>(gD.bulk z)) x.ts).sum + 1) + 1 + 1
def Ah.wf (x:Ah):Prop:=(∀ z∈x.ts,(gD.wf z))∧(-9223372036854775808≤x.at_∧x.at_≤9223372036854775807)
def kT.bulk (x:kT):Nat:=((List.map (fun z:gD=>(gD.bulk z)) x.ts).sum + 1) + 1 + 1
def kT.wf (x:kT):Prop:=(∀ z∈x.ts,(gD.wf z))∧(-9223372036854775808≤x.at_∧x.at_≤9223372036854775807)
def Ag.bulk (x:Ag):Nat:=1 + 1 + 1
def Ag.wf (x:Ag):Prop:=(-9223372036854775808≤x.at_∧x.at_≤9223372036854775807)∧(-9223372036854775808≤x.code∧x.code≤9223372036854775807)
def jZ.bulk (x:jZ):Nat:=1 + 1 + 1
def jZ.wf (x:jZ):Prop:=(-9223372036854775808≤x.at_∧x.at_≤9223372036854775807)∧(-9223372036854775808≤x.code∧x.code≤9223372036854775807)
def Af.bulk (x:Af):Nat:=1 + 1 + 1
def Af.wf (x:Af):Prop:=True∧True
def iX.bulk (x:iX):Nat:=1 + 1 + 1
def iX.wf (x:iX):Prop:=True∧True
def Ae.bulk (x:Ae):Nat:=(x.s.length + 1) + 1
def Ae.wf (x:Ae):Prop:=True
def gQ.bulk (x:gQ):Nat:=(x.s.length + 1) + 1
def gQ.wf (x:gQ):Prop:=True
def qc :Option Bool:=some true
def dD (s1:List Str):Option (List Str):=
 app [] s1
def cB (l1:List UInt8) (Cc:Int→UInt8→Option Bool):Nat→Int→Option Bool
 | 0,_=>none
 | dh + 1,i1=>
  if decide (i1 < (l1.length:Int)) then
   aj (idx l1 i1) fun e1=>
   aj (Cc i1 e1) fun x1=>
   if !x1 then
    some false
   else
    cB l1 Cc dh (fJ (i1 + 1))
  else
   some true
def iJ (l1:List UInt8) (Cc:Int→UInt8→Option Bool):Option Bool:=
 cB l1 Cc BIG 0
def kr (c1:UInt8):Option Bool:=
 some ((decide (48≤(c1.toNat:Int))) && (decide ((c1.toNat:Int)≤57)))
def f_ (i1:Int) (c1:UInt8):Option Bool:=
 aj (
   if (decide (97≤(c1.toNat:Int))) && (decide ((c1.toNat:Int)≤122)) then
    some true
   else
    kr c1) fun b1=>
 some (b1 || ((decide (0 < i1)) && ((((c1.toNat:Int) == 95) || ((c1.toNat:Int) == 45)) || ((c1.toNat:Int) == 46))))
def gq (s1:Str):Option Bool:=
 if (decide (0 < (s1.length:Int))) && (decide ((s1.length:Int)≤64)) then
  aj (app ([]:Str) s1) fun x1=>
  iJ x1 f_
 else
  some false
def dG (s1:Str) (fq:Str):Option Bool:=
 if decide ((fq.length:Int)≤(s1.length:Int)) then
  aj (sl s1 0 (fq.length:Int)) fun x1=>
  some (x1 == fq)
 else
  some false
def dH (s1:Str) (fq:Str):Option (Str × Bool):=
 aj (dG s1 fq) fun x1=>
 if !x1 then
  some (s1,false)
 else
  aj (sl s1 (fq.length:Int) (s1.length:Int)) fun DC=>
  some (DC,true)
def strings_CutPrefix (s1:Str) (fq:Str):Option (Str × Bool):=
 dH s1 fq
def jl :List iA:=[⟨([62,61]:Str),3⟩,⟨([60,61]:Str),4⟩,⟨([61]:Str),5⟩]
def strings_Cut (s1:Str) (t1:Str):Option (Str × Str × Bool):=
 if s1.length < 4294967281 then some (match dK s1 t1 with | none=>(s1,[],false) | some i=>(s1.take i,s1.drop (i + t1.length),true)) else none
def dX (x2:List UInt8):Nat→Int→Int→Option (Int × Bool)
 | 0,_,_=>none
 | dh + 1,n1,x3=>
  if decide (x3 < (x2.length:Int)) then
   aj (idx x2 x3) fun c1=>
   if (decide ((c1.toNat:Int) < 48)) || (decide (57 < (c1.toNat:Int))) then
    some (0,false)
   else
    dX x2 dh (fJ ((fJ (10 * n1)) + ((c1 - 48).toNat:Int))) (fJ (x3 + 1))
  else
   some (n1,(decide (n1≤9007199254740992)))
def iI (s1:Str):Option (Int × Bool):=
 aj (
   if (s1 == ([]:Str)) || (decide (16 < (s1.length:Int))) then
    some true
   else
    if decide (1 < (s1.length:Int)) then
     aj (idx s1 0) fun x1=>
     some ((x1.toNat:Int) == 48)
    else
     some false) fun b1=>
 if b1 then
  some (0,false)
 else
  aj (app ([]:Str) s1) fun x2=>
  dX x2 BIG 0 0
def cO (s1:Str):Nat→Int→Option (aP × Bool)
 | 0,_=>none
 | dh + 1,x1=>
  if decide (x1 < 3) then
   aj (idx jl x1) fun x2=>
   qI (strings_Cut s1 x2.text) fun name1 iR mJ=>
   if !mJ then
    cO s1 dh (fJ (x1 + 1))
   else
    mF (iI iR) fun n1 ok1=>
    aj (
      if !ok1 then
       some true
      else
       aj (gq name1) fun x3=>
       some (!x3)) fun b1=>
    if b1 then
     some ((aP.mk 0 ([]:Str) 0),false)
    else
     some ((aP.mk x2.form name1 n1),true)
  else
   some ((aP.mk 0 ([]:Str) 0),false)
def gZ (s1:Str):Option (aP × Bool):=
 cO s1 BIG 0
def ko (s1:Str):Option aP:=
 aj (gq s1) fun x1=>
 if x1 then
  some (aP.mk 1 s1 0)
 else
  mF (strings_CutPrefix s1 ([33]:Str)) fun name1 mJ=>
  aj (
    if mJ then
     gq name1
    else
     some false) fun b1=>
  if b1 then
   some (aP.mk 2 name1 0)
  else
   mF (gZ s1) fun x3 x4=>
   some x3
def fD (s1:Str):Option (aP × Bool × Bool):=
 aj (ko s1) fun x1=>
 some (x1,(x1.form == 5),((x1.form == 1) || (x1.form == 5)))
def jF (s1:Str):Nat→Int→Option Int
 | 0,_=>none
 | dh + 1,n1=>
  aj (
    if decide (n1 < (s1.length:Int)) then
     aj (idx s1 n1) fun x1=>
     kr x1
    else
     some false) fun b1=>
  if b1 then
   jF s1 dh (fJ (n1 + 1))
  else
   some n1
def kX (s1:Str):Option Int:=
 jF s1 BIG 0
def bN (c1:UInt8):Nat→Str→Option Str
 | 0,_=>none
 | dh + 1,s2=>
  aj (
    if decide (0 < (s2.length:Int)) then
     aj (idx s2 0) fun x1=>
     some ((x1.toNat:Int) == (c1.toNat:Int))
    else
     some false) fun b1=>
  if b1 then
   aj (sl s2 1 (s2.length:Int)) fun s3=>
   bN c1 dh s3
  else
   some s2
def strings_trimLeftByte (s1:Str) (c1:UInt8):Option Str:=
 bN c1 BIG s1
def eH (s1:Str) (mD:Str):Option Str:=
 if (s1 == ([]:Str)) || (mD == ([]:Str)) then
  some s1
 else
  aj (
    if (mD.length:Int) == 1 then
     aj (idx mD 0) fun x1=>
     some (decide ((x1.toNat:Int) < 128))
    else
     some false) fun b1=>
  if b1 then
   aj (idx mD 0) fun x2=>
   strings_trimLeftByte s1 x2
  else
   none
def cmp_isNaN_int (x1:Int):Option Bool:=
 some (x1 != x1)
def cmp_Compare_int (x1:Int) (y1:Int):Option Int:=
 aj (cmp_isNaN_int x1) fun tZ=>
 aj (cmp_isNaN_int y1) fun oH=>
 if tZ then
  if oH then
   some 0
  else
   some (-1)
 else
  if oH then
   some 1
  else
   if decide (x1 < y1) then
    some (-1)
   else
    if decide (y1 < x1) then
     some 1
    else
     some 0
def cmp_isNaN_string (x1:Str):Option Bool:=
 some (!(x1 == x1))
def eT (x1:Str) (y1:Str):Option Int:=
 aj (cmp_isNaN_string x1) fun tZ=>
 aj (cmp_isNaN_string y1) fun oH=>
 if tZ then
  if oH then
   some 0
  else
   some (-1)
 else
  if oH then
   some 1
  else
   if Go.Op.bytesLess x1 y1 then
    some (-1)
   else
    if !(Go.Op.bytesLess x1 y1 || x1 == y1) then
     some 1
    else
     some 0
def iV (oh:List Int):Nat→Int→Option Int
 | 0,_=>none
 | dh + 1,x1=>
  if decide (x1 < (oh.length:Int)) then
   aj (idx oh x1) fun Ep=>
   if Ep != 0 then
    some Ep
   else
    iV oh dh (fJ (x1 + 1))
  else
   some 0
def lN (oh:List Int):Option Int:=
 iV oh BIG 0
def iU (a1:Str) (b1:Str):Option Int:=
 aj (eH a1 ([48]:Str)) fun x1=>
 aj (eH b1 ([48]:Str)) fun y1=>
 aj (cmp_Compare_int (x1.length:Int) (y1.length:Int)) fun x2=>
 aj (eT x1 y1) fun x3=>
 aj (cmp_Compare_int (a1.length:Int) (b1.length:Int)) fun x4=>
 lN ([x2,x3,x4]:List Int)
def iy (x1:UInt8):Option Bool:=
 some ((x1.toNat:Int) != (x1.toNat:Int))
def fP (x1:UInt8) (y1:UInt8):Option Int:=
 aj (iy x1) fun tZ=>
 aj (iy y1) fun oH=>
 if tZ then
  if oH then
   some 0
  else
   some (-1)
 else
  if oH then
   some 1
  else
   if decide ((x1.toNat:Int) < (y1.toNat:Int)) then
    some (-1)
   else
    if decide ((y1.toNat:Int) < (x1.toNat:Int)) then
     some 1
    else
     some 0
def b_ :Nat→Str→Str→Option Int
 | 0,_,_=>none
 | dh + 1,a2,b2=>
  if (!(a2 == ([]:Str))) && (!(b2 == ([]:Str))) then
   aj (kX a2) fun n1=>
   aj (kX b2) fun m1=>
   if (decide (0 < n1)) && (decide (0 < m1)) then
    aj (sl a2 0 n1) fun x1=>
    aj (sl b2 0 m1) fun x2=>
    aj (iU x1 x2) fun c1=>
    if c1 != 0 then
     some c1
    else
     aj (sl a2 n1 (a2.length:Int)) fun a3=>
     aj (sl b2 m1 (b2.length:Int)) fun b3=>
     b_ dh a3 b3
   else
    aj (idx a2 0) fun x3=>
    aj (idx b2 0) fun x4=>
    if (x3.toNat:Int) != (x4.toNat:Int) then
     aj (idx a2 0) fun x5=>
     aj (idx b2 0) fun x6=>
     fP x5 x6
    else
     aj (sl a2 1 (a2.length:Int)) fun a4=>
     aj (sl b2 1 (b2.length:Int)) fun b4=>
     b_ dh a4 b4
  else
   cmp_Compare_int (a2.length:Int) (b2.length:Int)
def gH (a1:Str) (b1:Str):Option Int:=
 b_ BIG a1 b1
def gG (l1:List Str) (i1:Int):Option Bool:=
 if i1 == 0 then
  some true
 else
  aj (idx l1 (fJ (i1 - 1))) fun e1=>
  aj (idx l1 i1) fun e2=>
  aj (gH e1 e2) fun x1=>
  some (decide (x1 < 0))
def dM (bA:List Str):Nat→Int→List (Str × Int)→Option Int
 | 0,_,_=>none
 | dh + 1,i1,y1=>
  if decide (i1 < (bA.length:Int)) then
   aj (idx bA i1) fun s1=>
   qI (fD s1) fun x1 x2 ok1=>
   if !ok1 then
    some 5
   else
    if oD y1 x1.name != 0 then
     some 7
    else
     aj (gG bA i1) fun x3=>
     if !x3 then
      some 22
     else
      dM bA dh (fJ (i1 + 1)) (m_ y1 x1.name 1)
  else
   some 0
def g_ (bA:List Str):Option Int:=
 if decide (32 < (bA.length:Int)) then
  some 3
 else
  dM bA BIG 0 []
def j3 (n1:Int):Option Bool:=
 some ((decide (0≤n1)) && (decide (n1≤1125899906842624)))
def eG (l1:List Int):Nat→Int→Option Bool
 | 0,_=>none
 | dh + 1,i1=>
  if decide (i1 < (l1.length:Int)) then
   aj (idx l1 i1) fun t1=>
   aj (
     if (decide (t1 < 1)) || (decide (1125899906842624 < t1)) then
      some true
     else
      if decide (0 < i1) then
       aj (idx l1 (fJ (i1 - 1))) fun e1=>
       some (decide (t1≤e1))
      else
       some false) fun b1=>
   if b1 then
    some false
   else
    eG l1 dh (fJ (i1 + 1))
  else
   some true
def iQ (l1:List Int):Option Bool:=
 eG l1 BIG 0
def jy (w1:av):Option Int:=
 aj (gq w1.iD) fun x1=>
 if !x1 then
  some 10
 else
  aj (g_ w1.labels) fun e1=>
  if e1 != 0 then
   some e1
  else
   aj (
     if (((((decide (w1.trust < 0)) || (decide (2 < w1.trust))) || (decide (w1.slots < 1))) || (decide (64 < w1.slots))) || (decide (w1.phase < 0))) || (decide (3 < w1.phase)) then
      some true
     else
      aj (j3 w1.jv) fun x2=>
      some (!x2)) fun b1=>
   aj (
     if b1 then
      some true
     else
      aj (j3 w1.dw) fun x3=>
      some (!x3)) fun b2=>
   if b2 then
    some 2
   else
    if ((w1.dw != 0) && (!(w1.phase == 2))) || ((w1.phase == 2) && (!w1.bq)) then
     some 16
    else
     aj (iQ w1.tokens) fun x4=>
     if !x4 then
      some 22
     else
      if decide (w1.slots < (w1.tokens.length:Int)) then
       some 15
      else
       some 0
def pW (n1:Int) (lo1:Int) (hi1:Int):Option Int:=
 some (if lo1 < (if hi1 < n1 then hi1 else n1) then (if hi1 < n1 then hi1 else n1) else lo1)
def nE (w1:av) (eZ:Int):Option (aX × Int):=
 aj (dD w1.labels) fun x1=>
 aj (jy (av.mk w1.iD x1 w1.trust w1.slots w1.bq 0 0 0 [])) fun e1=>
 if e1 != 0 then
  some ((aX.mk (av.mk ([]:Str) [] 0 0 false 0 0 0 []) false false 0 0 0 []),e1)
 else
  aj (pW eZ 0 1125899906842624) fun x2=>
  if x2 != eZ then
   some ((aX.mk (av.mk ([]:Str) [] 0 0 false 0 0 0 []) false false 0 0 0 []),2)
  else
   some ((aX.mk (av.mk w1.iD x1 w1.trust w1.slots w1.bq 0 0 0 []) true false eZ eZ 0 []),0)
def jQ (w1:av):Option av:=
 some (av.mk w1.iD w1.labels w1.trust w1.slots w1.bq 0 0 0 [])
def lD (c1:UInt8):Option Bool:=
 some (((decide (97≤(c1.toNat:Int))) && (decide ((c1.toNat:Int)≤122))) || ((decide (48≤(c1.toNat:Int))) && (decide ((c1.toNat:Int)≤57))))
def gW (s1:Str):Nat→Int→Option Bool
 | 0,_=>none
 | dh + 1,i1=>
  if decide (i1 < (s1.length:Int)) then
   aj (idx s1 i1) fun x3=>
   aj (lD x3) fun x4=>
   aj (
     if !x4 then
      aj (idx s1 i1) fun x5=>
      some ((x5.toNat:Int) != 95)
     else
      some false) fun b2=>
   aj (
     if b2 then
      aj (idx s1 i1) fun x6=>
      some ((x6.toNat:Int) != 45)
     else
      some false) fun b3=>
   aj (
     if b3 then
      aj (idx s1 i1) fun x7=>
      some ((x7.toNat:Int) != 46)
     else
      some false) fun b4=>
   if b4 then
    some false
   else
    gW s1 dh (fJ (i1 + 1))
  else
   some true
def jE (s1:Str):Option Bool:=
 aj (
   if (decide ((s1.length:Int) < 1)) || (decide (64 < (s1.length:Int))) then
    some true
   else
    aj (idx s1 0) fun x1=>
    aj (lD x1) fun x2=>
    some (!x2)) fun b1=>
 if b1 then
  some false
 else
  gW s1 BIG 0
def iE (s1:Str):Nat→Int→Option (Str × Str)
 | 0,_=>none
 | dh + 1,i1=>
  if decide (i1 < (s1.length:Int)) then
   aj (idx s1 i1) fun x1=>
   aj (
     if (x1.toNat:Int) == 60 then
      some true
     else
      aj (idx s1 i1) fun x2=>
      some ((x2.toNat:Int) == 62)) fun b1=>
   aj (
     if b1 then
      some true
     else
      aj (idx s1 i1) fun x3=>
      some ((x3.toNat:Int) == 61)) fun b2=>
   if b2 then
    aj (sl s1 0 i1) fun x4=>
    aj (sl s1 i1 (s1.length:Int)) fun x5=>
    some (x4,x5)
   else
    iE s1 dh (fJ (i1 + 1))
  else
   some (s1,([]:Str))
def mX (s1:Str):Option (Str × Str):=
 iE s1 BIG 0
def dx (s1:Str):Nat→Int→Int→Option (Int × Bool)
 | 0,_,_=>none
 | dh + 1,n1,i1=>
  if decide (i1 < (s1.length:Int)) then
   aj (idx s1 i1) fun x2=>
   aj (
     if decide ((x2.toNat:Int) < 48) then
      some true
     else
      aj (idx s1 i1) fun x3=>
      some (decide (57 < (x3.toNat:Int)))) fun b3=>
   if b3 then
    some (0,false)
   else
    aj (idx s1 i1) fun x4=>
    dx s1 dh (fJ ((fJ (10 * n1)) + ((x4 - 48).toNat:Int))) (fJ (i1 + 1))
  else
   some (n1,(decide (n1≤9007199254740992)))
def fZ (s1:Str):Option (Int × Bool):=
 aj (
   if (s1 == ([]:Str)) || (decide (16 < (s1.length:Int))) then
    some true
   else
    if decide (1 < (s1.length:Int)) then
     aj (idx s1 0) fun x1=>
     some ((x1.toNat:Int) == 48)
    else
     some false) fun b1=>
 if b1 then
  some (0,false)
 else
  dx s1 BIG 0 0
def gV (D_:Int) (name1:Str) (n1:Str):Option aB:=
 mF (fZ n1) fun x1 ok1=>
 aj (
   if !ok1 then
    some true
   else
    aj (jE name1) fun x2=>
    some (!x2)) fun b1=>
 if b1 then
  some (aB.mk 0 ([]:Str) 0)
 else
  some (aB.mk D_ name1 x1)
def oZ (s1:Str):Option aB:=
 aj (
   if decide (0 < (s1.length:Int)) then
    aj (idx s1 0) fun x1=>
    some ((x1.toNat:Int) == 33)
   else
    some false) fun b1=>
 if b1 then
  aj (sl s1 1 (s1.length:Int)) fun x2=>
  aj (jE x2) fun x3=>
  if !x3 then
   some (aB.mk 0 ([]:Str) 0)
  else
   aj (sl s1 1 (s1.length:Int)) fun x4=>
   some (aB.mk 2 x4 0)
 else
  mF (mX s1) fun name1 iR=>
  aj (
    if iR == ([]:Str) then
     jE name1
    else
     some false) fun b2=>
  if b2 then
   some (aB.mk 1 name1 0)
  else
   aj (
     if decide (2 < (iR.length:Int)) then
      aj (sl iR 0 2) fun x6=>
      some (x6 == ([62,61]:Str))
     else
      some false) fun b3=>
   if b3 then
    aj (sl iR 2 (iR.length:Int)) fun x7=>
    gV 3 name1 x7
   else
    aj (
      if decide (2 < (iR.length:Int)) then
       aj (sl iR 0 2) fun x9=>
       some (x9 == ([60,61]:Str))
      else
       some false) fun b4=>
    if b4 then
     aj (sl iR 2 (iR.length:Int)) fun Jj=>
     gV 4 name1 Jj
    else
     aj (
       if decide (1 < (iR.length:Int)) then
        aj (idx iR 0) fun Np=>
        some ((Np.toNat:Int) == 61)
       else
        some false) fun b5=>
     if b5 then
      aj (sl iR 1 (iR.length:Int)) fun LX=>
      gV 5 name1 LX
     else
      some (aB.mk 0 ([]:Str) 0)
def gF (s1:Str):Option aB:=
 aj (oZ s1) fun x1=>
 if (x1.form != 1) && (x1.form != 5) then
  some (aB.mk 0 ([]:Str) 0)
 else
  some x1
def iH (D7:Bool) (rX:Bool):Option Int:=
 if D7 then
  some (-1)
 else
  if rX then
   some 1
  else
   some 0
def kW (c1:UInt8):Option Bool:=
 some ((decide (48≤(c1.toNat:Int))) && (decide ((c1.toNat:Int)≤57)))
def lC (s1:Str):Nat→Int→Option Int
 | 0,_=>none
 | dh + 1,at2=>
  aj (
    if decide (at2 < (s1.length:Int)) then
     aj (idx s1 at2) fun x1=>
     kW x1
    else
     some false) fun b1=>
  if b1 then
   lC s1 dh (fJ (at2 + 1))
  else
   some at2
def rR (s1:Str) (LK:Int):Option Int:=
 lC s1 BIG LK
def iG (s1:Str):Nat→Int→Option Str
 | 0,_=>none
 | dh + 1,i1=>
  aj (
    if decide (i1 < (s1.length:Int)) then
     aj (idx s1 i1) fun x1=>
     some ((x1.toNat:Int) == 48)
    else
     some false) fun b1=>
  if b1 then
   iG s1 dh (fJ (i1 + 1))
  else
   sl s1 i1 (s1.length:Int)
def kV (s1:Str):Option Str:=
 iG s1 BIG 0
def o7 (a1:Str) (b1:Str):Option Int:=
 aj (kV a1) fun x1=>
 aj (kV b1) fun y1=>
 if (x1.length:Int) != (y1.length:Int) then
  iH (decide ((x1.length:Int) < (y1.length:Int))) (decide ((y1.length:Int) < (x1.length:Int)))
 else
  if !(x1 == y1) then
   iH (Go.Op.bytesLess x1 y1) (!(Go.Op.bytesLess x1 y1 || x1 == y1))
  else
   iH (decide ((a1.length:Int) < (b1.length:Int))) (decide ((b1.length:Int) < (a1.length:Int)))
def dR (a1:Str) (b1:Str):Nat→Int→Int→Option Int
 | 0,_,_=>none
 | dh + 1,i1,tq=>
  if (decide (i1 < (a1.length:Int))) && (decide (tq < (b1.length:Int))) then
   aj (idx a1 i1) fun x1=>
   aj (idx b1 tq) fun x2=>
   aj (idx a1 i1) fun x3=>
   aj (idx b1 tq) fun x4=>
   aj (iH (decide ((x1.toNat:Int) < (x2.toNat:Int))) (decide ((x4.toNat:Int) < (x3.toNat:Int)))) fun c1=>
   aj (idx a1 i1) fun x5=>
   aj (kW x5) fun x6=>
   aj (
     if x6 then
      aj (idx b1 tq) fun x7=>
      kW x7
     else
      some false) fun b2=>
   if b2 then
    aj (rR a1 i1) fun m1=>
    aj (rR b1 tq) fun n1=>
    aj (sl a1 i1 m1) fun x9=>
    aj (sl b1 tq n1) fun Jj=>
    aj (o7 x9 Jj) fun c2=>
    if c2 != 0 then
     some c2
    else
     dR a1 b1 dh m1 n1
   else
    if c1 != 0 then
     some c1
    else
     dR a1 b1 dh (fJ (i1 + 1)) (fJ (tq + 1))
  else
   iH (decide (tq < (b1.length:Int))) (decide (i1 < (a1.length:Int)))
def gX (a1:Str) (b1:Str):Option Int:=
 dR a1 b1 BIG 0 0
def iF (bA:List Str) (i1:Int) (oz:Int→Option Int):Nat→Int→Option Int
 | 0,_=>none
 | L_ + 1,tq=>
  if decide (tq < i1) then
   aj (idx bA tq) fun e2=>
   aj (gF e2) fun x2=>
   aj (idx bA i1) fun e3=>
   aj (gF e3) fun x3=>
   if x2.name == x3.name then
    some 7
   else
    iF bA i1 oz L_ (fJ (tq + 1))
  else
   aj (
     if decide (0 < i1) then
      aj (idx bA (fJ (i1 - 1))) fun e4=>
      aj (idx bA i1) fun e5=>
      aj (gX e4 e5) fun x4=>
      some (decide (0≤x4))
     else
      some false) fun b1=>
   if b1 then
    some 22
   else
    oz (fJ (i1 + 1))
def d9 (bA:List Str):Nat→Int→Option Int
 | 0,_=>none
 | dh + 1,i1=>
  if decide (i1 < (bA.length:Int)) then
   aj (idx bA i1) fun e1=>
   aj (gF e1) fun x1=>
   if x1.form == 0 then
    some 5
   else
    iF bA i1 (d9 bA dh) BIG 0
  else
   some 0
def mY (bA:List Str):Option Int:=
 if decide (32 < (bA.length:Int)) then
  some 3
 else
  d9 bA BIG 0
def gU (n1:Int) (lo1:Int) (hi1:Int):Option Bool:=
 some ((decide (lo1≤n1)) && (decide (n1≤hi1)))
def oW (t1:Int):Option Bool:=
 gU t1 0 1125899906842624
def iC (w1:av):Nat→Int→Option Int
 | 0,_=>none
 | dh + 1,i1=>
  if decide (i1 < (w1.tokens.length:Int)) then
   aj (idx w1.tokens i1) fun e2=>
   aj (gU e2 1 1125899906842624) fun x7=>
   aj (
     if !x7 then
      some true
     else
      if decide (0 < i1) then
       aj (idx w1.tokens (fJ (i1 - 1))) fun e3=>
       aj (idx w1.tokens i1) fun e4=>
       some (decide (e4≤e3))
      else
       some false) fun b5=>
   if b5 then
    some 22
   else
    iC w1 dh (fJ (i1 + 1))
  else
   if decide (w1.slots < (w1.tokens.length:Int)) then
    some 15
   else
    some 0
def kU (w1:av):Option Int:=
 aj (jE w1.iD) fun x1=>
 if !x1 then
  some 10
 else
  aj (mY w1.labels) fun e1=>
  if e1 != 0 then
   some e1
  else
   aj (gU w1.trust 0 2) fun x2=>
   aj (
     if !x2 then
      some true
     else
      aj (gU w1.slots 1 64) fun x3=>
      some (!x3)) fun b1=>
   aj (
     if b1 then
      some true
     else
      aj (gU w1.phase 0 3) fun x4=>
      some (!x4)) fun b2=>
   aj (
     if b2 then
      some true
     else
      aj (oW w1.jv) fun x5=>
      some (!x5)) fun b3=>
   aj (
     if b3 then
      some true
     else
      aj (oW w1.dw) fun x6=>
      some (!x6)) fun b4=>
   if b4 then
    some 2
   else
    if ((w1.dw != 0) && (w1.phase != 2)) || ((w1.phase == 2) && (!w1.bq)) then
     some 16
    else
     iC w1 BIG 0
def rP (w1:av) (eZ:Int):Option (aX × Int):=
 aj (jQ w1) fun x1=>
 aj (kU x1) fun e1=>
 if (e1 == 0) && ((decide (eZ < 0)) || (decide (1125899906842624 < eZ))) then
  if (2:Int) != 0 then
   some ((aX.mk (av.mk ([]:Str) [] 0 0 false 0 0 0 []) false false 0 0 0 []),2)
  else
   aj (jQ w1) fun x2=>
   some ((aX.mk x2 true false eZ eZ 0 []),0)
 else
  if e1 != 0 then
   some ((aX.mk (av.mk ([]:Str) [] 0 0 false 0 0 0 []) false false 0 0 0 []),e1)
  else
   aj (jQ w1) fun x3=>
   some ((aX.mk x3 true false eZ eZ 0 []),0)
def fV (a1:List Str) (b1:List Str):Nat→Int→Option Bool
 | 0,_=>none
 | dh + 1,i1=>
  if decide (i1 < (a1.length:Int)) then
   aj (idx a1 i1) fun e1=>
   aj (idx b1 i1) fun e2=>
   if !(e1 == e2) then
    some false
   else
    fV a1 b1 dh (fJ (i1 + 1))
  else
   some true
def mW (a1:List Str) (b1:List Str):Option Bool:=
 if (a1.length:Int) != (b1.length:Int) then
  some false
 else
  fV a1 b1 BIG 0
def fM (a1:List Int) (b1:List Int):Nat→Int→Option Bool
 | 0,_=>none
 | dh + 1,i1=>
  if decide (i1 < (a1.length:Int)) then
   aj (idx a1 i1) fun e1=>
   aj (idx b1 i1) fun e2=>
   if e1 != e2 then
    some false
   else
    fM a1 b1 dh (fJ (i1 + 1))
  else
   some true
def kg (a1:List Int) (b1:List Int):Option Bool:=
 if (a1.length:Int) != (b1.length:Int) then
  some false
 else
  fM a1 b1 BIG 0
def rQ (a1:av) (b1:av):Option Bool:=
 aj (
   if a1.iD == b1.iD then
    mW a1.labels b1.labels
   else
    some false) fun b2=>
 if (((((b2 && (a1.trust == b1.trust)) && (a1.slots == b1.slots)) && (a1.bq == b1.bq)) && (a1.phase == b1.phase)) && (a1.jv == b1.jv)) && (a1.dw == b1.dw) then
  kg a1.tokens b1.tokens
 else
  some false
def mh (a1:List Str) (b1:List Str):Nat→Int→Option Bool
 | 0,_=>none
 | dh + 1,i1=>
  if decide (i1 < (a1.length:Int)) then
   aj (idx a1 i1) fun e1=>
   aj (idx b1 i1) fun e2=>
   if !(e1 == e2) then
    some false
   else
    mh a1 b1 dh (fJ (i1 + 1))
  else
   some true
def mZ (a1:List Str) (b1:List Str):Option Bool:=
 if (a1.length:Int) != (b1.length:Int) then
  some false
 else
  mh a1 b1 BIG 0
def sO (a1:aF) (b1:aF):Option Bool:=
 aj (
   if ((a1.name == b1.name) && (a1.text == b1.text)) && (a1.level == b1.level) then
    mZ a1.refs b1.refs
   else
    some false) fun b2=>
 if b2 then
  mZ a1.environments b1.environments
 else
  some false
def l9 (a1:List aF) (b1:List aF):Nat→Int→Option Bool
 | 0,_=>none
 | dh + 1,i1=>
  if decide (i1 < (a1.length:Int)) then
   aj (idx a1 i1) fun e1=>
   aj (idx b1 i1) fun e2=>
   aj (sO e1 e2) fun x1=>
   if !x1 then
    some false
   else
    l9 a1 b1 dh (fJ (i1 + 1))
  else
   some true
def vV (a1:List aF) (b1:List aF):Option Bool:=
 if (a1.length:Int) != (b1.length:Int) then
  some false
 else
  l9 a1 b1 BIG 0
def jB (a1:List ah) (b1:List ah):Nat→Int→Option Bool
 | 0,_=>none
 | dh + 1,i1=>
  if decide (i1 < (a1.length:Int)) then
   aj (idx a1 i1) fun e1=>
   aj (idx b1 i1) fun e2=>
   if !(ah.Bo e1 e2) then
    some false
   else
    jB a1 b1 dh (fJ (i1 + 1))
  else
   some true
def j_ (a1:List ah) (b1:List ah):Option Bool:=
 if (a1.length:Int) != (b1.length:Int) then
  some false
 else
  jB a1 b1 BIG 0
def jC (a1:List aC) (b1:List aC):Nat→Int→Option Bool
 | 0,_=>none
 | dh + 1,i1=>
  if decide (i1 < (a1.length:Int)) then
   aj (idx a1 i1) fun e1=>
   aj (idx b1 i1) fun e2=>
   if !(aC.Bo e1 e2) then
    some false
   else
    jC a1 b1 dh (fJ (i1 + 1))
  else
   some true
def l8 (a1:List aC) (b1:List aC):Option Bool:=
 if (a1.length:Int) != (b1.length:Int) then
  some false
 else
  jC a1 b1 BIG 0
def jD (a1:List aH) (b1:List aH):Nat→Int→Option Bool
 | 0,_=>none
 | dh + 1,i1=>
  if decide (i1 < (a1.length:Int)) then
   aj (idx a1 i1) fun e1=>
   aj (idx b1 i1) fun e2=>
   if !(aH.Bo e1 e2) then
    some false
   else
    jD a1 b1 dh (fJ (i1 + 1))
  else
   some true
def oV (a1:List aH) (b1:List aH):Option Bool:=
 if (a1.length:Int) != (b1.length:Int) then
  some false
 else
  jD a1 b1 BIG 0
def vS (a1:aI) (b1:aI):Option Bool:=
 aj (
   if (((bE.Bo a1.bQ b1.bQ) && (a1.job.iD == b1.job.iD)) && ((a1.job.steps.length:Int) == (b1.job.steps.length:Int))) && (aM.Bo a1.origin b1.origin) then
    vV a1.bL b1.bL
   else
    some false) fun b2=>
 aj (
   if b2 then
    j_ a1.artifacts b1.artifacts
   else
    some false) fun b3=>
 aj (
   if b3 then
    l8 a1.entries b1.entries
   else
    some false) fun b4=>
 aj (
   if b4 then
    mZ a1.tests b1.tests
   else
    some false) fun b5=>
 aj (
   if b5 then
    oV a1.times b1.times
   else
    some false) fun b6=>
 if b6 then
  mZ a1.ignored b1.ignored
 else
  some false
def mg (a1:List ak) (b1:List ak):Nat→Int→Option Bool
 | 0,_=>none
 | dh + 1,i1=>
  if decide (i1 < (a1.length:Int)) then
   aj (idx a1 i1) fun e1=>
   aj (idx b1 i1) fun e2=>
   if !(ak.Bo e1 e2) then
    some false
   else
    mg a1 b1 dh (fJ (i1 + 1))
  else
   some true
def vW (a1:List ak) (b1:List ak):Option Bool:=
 if (a1.length:Int) != (b1.length:Int) then
  some false
 else
  mg a1 b1 BIG 0
def oU (a1:aS) (b1:aS):Option Bool:=
 aj (
   if ((a1.status == b1.status) && (a1.eD == b1.eD)) && (a1.child == b1.child) then
    j_ a1.inputs b1.inputs
   else
    some false) fun b2=>
 aj (
   if b2 then
    j_ a1.outputs b1.outputs
   else
    some false) fun b3=>
 if b3 then
  vW a1.tests b1.tests
 else
  some false
def vU (a1:bB) (b1:bB):Option Bool:=
 aj (
   if (a1.log == b1.log) && (a1.time == b1.time) then
    l8 a1.saves b1.saves
   else
    some false) fun b2=>
 if b2 then
  oU a1.result b1.result
 else
  some false
def vT (a1:aV) (b1:aV):Option Bool:=
 aj (vS a1.work b1.work) fun x1=>
 if (((x1 && (a1.began == b1.began)) && (a1.done == b1.done)) && (a1.sent == b1.sent)) && (a1.saved == b1.saved) then
  vU a1.effect b1.effect
 else
  some false
def iB (a1:List aV) (b1:List aV):Nat→Int→Option Bool
 | 0,_=>none
 | dh + 1,i1=>
  if decide (i1 < (a1.length:Int)) then
   aj (idx a1 i1) fun e1=>
   aj (idx b1 i1) fun e2=>
   aj (vT e1 e2) fun x1=>
   if !x1 then
    some false
   else
    iB a1 b1 dh (fJ (i1 + 1))
  else
   some true
def mV (a1:List aV) (b1:List aV):Option Bool:=
 if (a1.length:Int) != (b1.length:Int) then
  some false
 else
  iB a1 b1 BIG 0
def j6 (a1:aX) (b1:aX):Option Bool:=
 aj (rQ a1.worker b1.worker) fun x1=>
 if ((((x1 && (a1.up == b1.up)) && (a1.joined == b1.joined)) && (a1.jv == b1.jv)) && (a1.heard == b1.heard)) && (a1.dw == b1.dw) then
  mV a1.tasks b1.tasks
 else
  some false
def iW (w1:av) (eZ:Int):Option Bool:=
 if decide (40 < (w1.labels.length:Int)) then
  qc
 else
  mF (nE w1 eZ) fun x2 e1=>
  mF (rP w1 eZ) fun x3 f1=>
  aj (j6 x2 x3) fun x4=>
  if x4 && (e1 == f1) then
   qc
  else
   some false
end Go.Ft
