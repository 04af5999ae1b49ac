/- Proved here: nothing: the functional texts of the functions that the statements reach, as our program wrote them. -/
import Derived.Test.YtdgljcpjcgldfaaGreatDoorAgWords
set_option linter.unusedVariables false
set_option linter.unusedSimpArgs false
set_option linter.unusedSectionVars false
namespace Go.Ft
open Go
structure aD where
 kind:Int
 jK:Bool
 mJ:Int
 mh:Str
 jr:List aD
 keys:List Str
structure aL where
 kind:Int
 name:Str
 value:aD
 args:List aL
 keys:List Str
structure aX where
 name:Str
 value:aD
structure aQ where
 op:Int
 name:Str
 text:Str
 n:Int
 deriving DecidableEq
structure bD where
 max:Int
 classes:List Int
 base:Int
 cap:Int
 deriving DecidableEq
structure aB where
 key:Str
 restore:List Str
 files:List Str
 deriving DecidableEq
structure aR where
 dK:Int
 dJ:List Str
 iE:Int
 deriving DecidableEq
structure bN where
 iD:Str
 needs:List Str
 when:aL
 vars:List aX
 steps:List aQ
 labels:List Str
 group:Str
 policy:Int
 priority:Int
 cost:Int
 timeout:Int
 retry:bD
 inputs:List Str
 uses:List Str
 outputs:List Str
 caches:List aB
 bB:List Str
 environment:Str
 jV:Bool
 gate:aR
 tests:List Str
 lN:Int
 jA:Int
 gT:Bool
 child:Bool
structure ak where
 name:Str
 text:Str
 level:Int
 refs:List Str
 environments:List Str
 deriving DecidableEq
structure bf where
 path:Str
 digest:BitVec 64
 deriving DecidableEq
structure aj where
 name:Str
 digest:BitVec 64
 size:Int
 deriving DecidableEq
structure aT where
 project:Str
 trust:Int
 ref:Str
 deriving DecidableEq
structure av where
 scope:aT
 key:Str
 digest:BitVec 64
 size:Int
 created:Int
 used:Int
 deriving DecidableEq
structure aA where
 name:Str
 time:Int
 deriving DecidableEq
structure dn where
 files:List bf
 artifacts:List aj
 bB:List ak
 caches:List av
 keys:List Str
 tests:List Str
 times:List aA
 ignored:List Str
 attempt:Int
 deriving DecidableEq
structure aK where
 run:Str
 job:Str
 deriving DecidableEq
structure bn where
 token:Int
 ref:aK
 attempt:Int
 worker:Str
 granted:Int
 expires:Int
 deriving DecidableEq
structure aG where
 project:Str
 ref:Str
 fork:Bool
 deriving DecidableEq
structure aC where
 bQ:bn
 job:bN
 origin:aG
 bB:List ak
 artifacts:List aj
 entries:List av
 tests:List Str
 times:List aA
 ignored:List Str
structure aI where
 iD:Str
 labels:List Str
 trust:Int
 slots:Int
 cu:Bool
 phase:Int
 gu:Int
 bR:Int
 tokens:List Int
 deriving DecidableEq
structure ah where
 name:Str
 status:Int
 time:Int
 deriving DecidableEq
structure aJ where
 status:Int
 bU:Int
 inputs:List aj
 outputs:List aj
 tests:List ah
 child:Str
 deriving DecidableEq
structure aU where
 result:aJ
 log:Str
 time:Int
 saves:List av
 deriving DecidableEq
structure aF where
 work:aC
 began:Int
 done:Int
 effect:aU
 sent:Int
 saved:Int
structure aH where
 worker:aI
 up:Bool
 joined:Bool
 gu:Int
 heard:Int
 bR:Int
 tasks:List aF
structure au where
 kind:Int
 name:Str
 ref:aK
 n:Int
 token:Int
 bU:Int
 text:Str
 origin:aG
 args:List aX
 worker:aI
 secret:ak
 entry:av
 result:aJ
structure zX where
 x:Int
 y:Int
 signed:Bool
 code:UInt8
 deriving DecidableEq
structure gL where
 x:Int
 y:Int
 signed:Bool
 code:UInt8
 deriving DecidableEq
structure zW where
 msg:Str
 addr:BitVec 64
 deriving DecidableEq
structure dV where
 msg:Str
 addr:BitVec 64
 deriving DecidableEq
structure zV where
 iD:Str
 labels:List Str
 trust:Int
 slots:Int
 cu:Bool
 phase:Int
 gu:Int
 bR:Int
 tokens:List Int
 deriving DecidableEq
structure zU where
 worker:aI
 up:Bool
 joined:Bool
 gu:Int
 heard:Int
 bR:Int
 tasks:List aF
structure zT where
 run:Str
 job:Str
 deriving DecidableEq
structure zS where
 project:Str
 ref:Str
 fork:Bool
 deriving DecidableEq
structure zR where
 name:Str
 text:Str
 level:Int
 refs:List Str
 environments:List Str
 deriving DecidableEq
structure zQ where
 project:Str
 trust:Int
 ref:Str
 deriving DecidableEq
structure zP where
 scope:aT
 key:Str
 digest:BitVec 64
 size:Int
 created:Int
 used:Int
 deriving DecidableEq
structure zO where
 status:Int
 bU:Int
 inputs:List aj
 outputs:List aj
 tests:List ah
 child:Str
 deriving DecidableEq
structure zN where
 kind:Int
 name:Str
 ref:aK
 n:Int
 token:Int
 bU:Int
 text:Str
 origin:aG
 args:List aX
 worker:aI
 secret:ak
 entry:av
 result:aJ
structure zM where
 code:Int
 text:Str
 n:Int
 work:List aC
structure qY where
 code:Int
 text:Str
 n:Int
 work:List aC
structure zL where
 token:Int
 ref:aK
 attempt:Int
 worker:Str
 granted:Int
 expires:Int
 deriving DecidableEq
structure zK where
 kind:Int
 jK:Bool
 mJ:Int
 mh:Str
 jr:List aD
 keys:List Str
structure zJ where
 kind:Int
 name:Str
 value:aD
 args:List aL
 keys:List Str
structure zI where
 max:Int
 classes:List Int
 base:Int
 cap:Int
 deriving DecidableEq
structure zH where
 dK:Int
 dJ:List Str
 iE:Int
 deriving DecidableEq
structure zG where
 iD:Str
 needs:List Str
 when:aL
 vars:List aX
 steps:List aQ
 labels:List Str
 group:Str
 policy:Int
 priority:Int
 cost:Int
 timeout:Int
 retry:bD
 inputs:List Str
 uses:List Str
 outputs:List Str
 caches:List aB
 bB:List Str
 environment:Str
 jV:Bool
 gate:aR
 tests:List Str
 lN:Int
 jA:Int
 gT:Bool
 child:Bool
structure zF where
 bQ:bn
 job:bN
 origin:aG
 bB:List ak
 artifacts:List aj
 entries:List av
 tests:List Str
 times:List aA
 ignored:List Str
structure zD where
 files:List bf
 artifacts:List aj
 bB:List ak
 caches:List av
 keys:List Str
 tests:List Str
 times:List aA
 ignored:List Str
 attempt:Int
 deriving DecidableEq
structure zC where
 result:aJ
 log:Str
 time:Int
 saves:List av
 deriving DecidableEq
structure zB where
 work:aC
 began:Int
 done:Int
 effect:aU
 sent:Int
 saved:Int
structure zA where
 path:Str
 digest:BitVec 64
 deriving DecidableEq
structure zy where
 key:Str
 restore:List Str
 files:List Str
 deriving DecidableEq
structure zx where
 name:Str
 digest:BitVec 64
 size:Int
 deriving DecidableEq
structure zw where
 name:Str
 time:Int
 deriving DecidableEq
structure zu where
 origin:aG
 files:List bf
 deriving DecidableEq
structure tK where
 origin:aG
 files:List bf
 deriving DecidableEq
structure zq where
 form:Int
 name:Str
 n:Int
 deriving DecidableEq
structure o_ where
 form:Int
 name:Str
 n:Int
 deriving DecidableEq
structure zo where
 form:Int
 name:Str
 n:Int
 deriving DecidableEq
structure gZ where
 form:Int
 name:Str
 n:Int
 deriving DecidableEq
structure zn where
 op:Int
 name:Str
 text:Str
 n:Int
 deriving DecidableEq
structure zm where
 name:Str
 status:Int
 time:Int
 deriving DecidableEq
structure zl where
 name:Str
 value:aD
structure LZ where
 set:List (BitVec 64)
 many:Bool
 literal:Bool
 char:UInt8
 deriving DecidableEq
structure Gx where
 set:List (BitVec 64)
 many:Bool
 literal:Bool
 char:UInt8
 deriving DecidableEq
structure zk where
 text:Str
 Mq:Bool
 expr:aL
structure qZ where
 text:Str
 Mq:Bool
 expr:aL
structure zi where
 text:Str
 form:Int
 deriving DecidableEq
structure zh where
 kind:Int
 text:Str
 at_:Int
 deriving DecidableEq
structure gQ where
 kind:Int
 text:Str
 at_:Int
 deriving DecidableEq
structure ze where
 code:Int
 deriving DecidableEq
structure lX where
 code:Int
 deriving DecidableEq
structure za where
 ts:List gQ
 at_:Int
 deriving DecidableEq
structure kL where
 ts:List gQ
 at_:Int
 deriving DecidableEq
structure y9 where
 at_:Int
 code:Int
 deriving DecidableEq
structure jY where
 at_:Int
 code:Int
 deriving DecidableEq
structure y8 where
 lo:UInt8
 hi:UInt8
 deriving DecidableEq
structure iY where
 lo:UInt8
 hi:UInt8
 deriving DecidableEq
structure LY where
 half:List (BitVec 64)
 neg:Bool
 deriving DecidableEq
structure Ia where
 half:List (BitVec 64)
 neg:Bool
 deriving DecidableEq
structure LX where
 func:Str
 num:Str
 err:Option Nat
structure Du where
 func:Str
 num:Str
 err:Option Nat
structure y7 where
 s:Str
 deriving DecidableEq
structure g_ where
 s:Str
 deriving DecidableEq
def aj.oC (a b:aj):Bool:=((a.name == b.name) && (((a.digest.toNat:Int) == (b.digest.toNat:Int)) && ((a.size == b.size) && true)))
def ah.oC (a b:ah):Bool:=((a.name == b.name) && ((a.status == b.status) && ((a.time == b.time) && true)))
def aK.oC (a b:aK):Bool:=((a.run == b.run) && ((a.job == b.job) && true))
def aG.oC (a b:aG):Bool:=((a.project == b.project) && ((a.ref == b.ref) && ((a.fork == b.fork) && true)))
def av.oC (a b:av):Bool:=(((a.scope.project == b.scope.project) && ((a.scope.trust == b.scope.trust) && ((a.scope.ref == b.scope.ref) && true))) && ((a.key == b.key) && (((a.digest.toNat:Int) == (b.digest.toNat:Int)) && ((a.size == b.size) && ((a.created == b.created) && ((a.used == b.used) && true))))))
def aA.oC (a b:aA):Bool:=((a.name == b.name) && ((a.time == b.time) && true))
def bn.oC (a b:bn):Bool:=((a.token == b.token) && (((a.ref.run == b.ref.run) && ((a.ref.job == b.ref.job) && true)) && ((a.attempt == b.attempt) && ((a.worker == b.worker) && ((a.granted == b.granted) && ((a.expires == b.expires) && true))))))
mutual
def aD.bulk :aD→Nat
 | ⟨a0,a1,a2,a3,a4,a5⟩=>1 + 1 + 1 + (a3.length + 1) + (aD.kC a4 + 1) + ((List.map (fun z:Str=>(z.length + 1)) a5).sum + 1) + 1
def aD.kC :List aD→Nat
 | []=>0
 | x :: xs=>aD.bulk x + aD.kC xs
end
theorem aD.lD :∀ l:List aD,aD.kC l=(l.map aD.bulk).sum
 | []=>rfl
 | x :: l=>by simp only [aD.kC,List.map_cons,List.sum_cons,aD.lD l]
theorem aD.bH (x:aD):aD.bulk x=1 + 1 + 1 + (x.mh.length + 1) + (aD.kC x.jr + 1) + ((List.map (fun z:Str=>(z.length + 1)) x.keys).sum + 1) + 1:=by cases x; rfl
mutual
def aL.bulk :aL→Nat
 | ⟨a0,a1,a2,a3,a4⟩=>1 + (a1.length + 1) + (aD.bulk a2) + (aL.kC a3 + 1) + ((List.map (fun z:Str=>(z.length + 1)) a4).sum + 1) + 1
def aL.kC :List aL→Nat
 | []=>0
 | x :: xs=>aL.bulk x + aL.kC xs
end
theorem aL.lD :∀ l:List aL,aL.kC l=(l.map aL.bulk).sum
 | []=>rfl
 | x :: l=>by simp only [aL.kC,List.map_cons,List.sum_cons,aL.lD l]
theorem aL.bH (x:aL):aL.bulk x=1 + (x.name.length + 1) + (aD.bulk x.value) + (aL.kC x.args + 1) + ((List.map (fun z:Str=>(z.length + 1)) x.keys).sum + 1) + 1:=by cases x; rfl
def aX.bulk (x:aX):Nat:=(x.name.length + 1) + (aD.bulk x.value) + 1
def aX.wf (x:aX):Prop:=True∧True
def aQ.bulk (x:aQ):Nat:=1 + (x.name.length + 1) + (x.text.length + 1) + 1 + 1
def aQ.wf (x:aQ):Prop:=(-9223372036854775808≤x.op∧x.op≤9223372036854775807)∧True∧True∧(-9223372036854775808≤x.n∧x.n≤9223372036854775807)
def bD.bulk (x:bD):Nat:=1 + ((List.map (fun z:Int=>1) x.classes).sum + 1) + 1 + 1 + 1
def bD.wf (x:bD):Prop:=(-9223372036854775808≤x.max∧x.max≤9223372036854775807)∧(∀ z∈x.classes,(-9223372036854775808≤z∧z≤9223372036854775807))∧(-9223372036854775808≤x.base∧x.base≤9223372036854775807)∧(-9223372036854775808≤x.cap∧x.cap≤9223372036854775807)
def aB.bulk (x:aB):Nat:=(x.key.length + 1) + ((List.map (fun z:Str=>(z.length + 1)) x.restore).sum + 1) + ((List.map (fun z:Str=>(z.length + 1)) x.files).sum + 1) + 1
def aB.wf (x:aB):Prop:=True∧(∀ z∈x.restore,True)∧(∀ z∈x.files,True)
def aR.bulk (x:aR):Nat:=1 + ((List.map (fun z:Str=>(z.length + 1)) x.dJ).sum + 1) + 1 + 1
def aR.wf (x:aR):Prop:=(-9223372036854775808≤x.dK∧x.dK≤9223372036854775807)∧(∀ z∈x.dJ,True)∧(-9223372036854775808≤x.iE∧x.iE≤9223372036854775807)
def bN.bulk (x:bN):Nat:=(x.iD.length + 1) + ((List.map (fun z:Str=>(z.length + 1)) x.needs).sum + 1) + (aL.bulk x.when) + ((List.map (fun z:aX=>(aX.bulk z)) x.vars).sum + 1) + ((List.map (fun z:aQ=>(aQ.bulk z)) x.steps).sum + 1) + ((List.map (fun z:Str=>(z.length + 1)) x.labels).sum + 1) + (x.group.length + 1) + 1 + 1 + 1 + 1 + (bD.bulk x.retry) + ((List.map (fun z:Str=>(z.length + 1)) x.inputs).sum + 1) + ((List.map (fun z:Str=>(z.length + 1)) x.uses).sum + 1) + ((List.map (fun z:Str=>(z.length + 1)) x.outputs).sum + 1) + ((List.map (fun z:aB=>(aB.bulk z)) x.caches).sum + 1) + ((List.map (fun z:Str=>(z.length + 1)) x.bB).sum + 1) + (x.environment.length + 1) + 1 + (aR.bulk x.gate) + ((List.map (fun z:Str=>(z.length + 1)) x.tests).sum + 1) + 1 + 1 + 1 + 1 + 1
def bN.wf (x:bN):Prop:=True∧(∀ z∈x.needs,True)∧True∧(∀ z∈x.vars,(aX.wf z))∧(∀ z∈x.steps,(aQ.wf z))∧(∀ z∈x.labels,True)∧True∧(-9223372036854775808≤x.policy∧x.policy≤9223372036854775807)∧(-9223372036854775808≤x.priority∧x.priority≤9223372036854775807)∧(-9223372036854775808≤x.cost∧x.cost≤9223372036854775807)∧(-9223372036854775808≤x.timeout∧x.timeout≤9223372036854775807)∧(bD.wf x.retry)∧(∀ z∈x.inputs,True)∧(∀ z∈x.uses,True)∧(∀ z∈x.outputs,True)∧(∀ z∈x.caches,(aB.wf z))∧(∀ z∈x.bB,True)∧True∧True∧(aR.wf x.gate)∧(∀ z∈x.tests,True)∧(-9223372036854775808≤x.lN∧x.lN≤9223372036854775807)∧(-9223372036854775808≤x.jA∧x.jA≤9223372036854775807)∧True∧True
def ak.bulk (x:ak):Nat:=(x.name.length + 1) + (x.text.length + 1) + 1 + ((List.map (fun z:Str=>(z.length + 1)) x.refs).sum + 1) + ((List.map (fun z:Str=>(z.length + 1)) x.environments).sum + 1) + 1
def ak.wf (x:ak):Prop:=True∧True∧(-9223372036854775808≤x.level∧x.level≤9223372036854775807)∧(∀ z∈x.refs,True)∧(∀ z∈x.environments,True)
def bf.bulk (x:bf):Nat:=(x.path.length + 1) + 1 + 1
def bf.wf (x:bf):Prop:=True∧True
def aj.bulk (x:aj):Nat:=(x.name.length + 1) + 1 + 1 + 1
def aj.wf (x:aj):Prop:=True∧True∧(-9223372036854775808≤x.size∧x.size≤9223372036854775807)
def aT.bulk (x:aT):Nat:=(x.project.length + 1) + 1 + (x.ref.length + 1) + 1
def aT.wf (x:aT):Prop:=True∧(-9223372036854775808≤x.trust∧x.trust≤9223372036854775807)∧True
def av.bulk (x:av):Nat:=(aT.bulk x.scope) + (x.key.length + 1) + 1 + 1 + 1 + 1 + 1
def av.wf (x:av):Prop:=(aT.wf x.scope)∧True∧True∧(-9223372036854775808≤x.size∧x.size≤9223372036854775807)∧(-9223372036854775808≤x.created∧x.created≤9223372036854775807)∧(-9223372036854775808≤x.used∧x.used≤9223372036854775807)
def aA.bulk (x:aA):Nat:=(x.name.length + 1) + 1 + 1
def aA.wf (x:aA):Prop:=True∧(-9223372036854775808≤x.time∧x.time≤9223372036854775807)
def dn.bulk (x:dn):Nat:=((List.map (fun z:bf=>(bf.bulk z)) x.files).sum + 1) + ((List.map (fun z:aj=>(aj.bulk z)) x.artifacts).sum + 1) + ((List.map (fun z:ak=>(ak.bulk z)) x.bB).sum + 1) + ((List.map (fun z:av=>(av.bulk z)) x.caches).sum + 1) + ((List.map (fun z:Str=>(z.length + 1)) x.keys).sum + 1) + ((List.map (fun z:Str=>(z.length + 1)) x.tests).sum + 1) + ((List.map (fun z:aA=>(aA.bulk z)) x.times).sum + 1) + ((List.map (fun z:Str=>(z.length + 1)) x.ignored).sum + 1) + 1 + 1
def dn.wf (x:dn):Prop:=(∀ z∈x.files,(bf.wf z))∧(∀ z∈x.artifacts,(aj.wf z))∧(∀ z∈x.bB,(ak.wf z))∧(∀ z∈x.caches,(av.wf z))∧(∀ z∈x.keys,True)∧(∀ z∈x.tests,True)∧(∀ z∈x.times,(aA.wf z))∧(∀ z∈x.ignored,True)∧(-9223372036854775808≤x.attempt∧x.attempt≤9223372036854775807)
def aK.bulk (x:aK):Nat:=(x.run.length + 1) + (x.job.length + 1) + 1
def aK.wf (x:aK):Prop:=True∧True
def bn.bulk (x:bn):Nat:=1 + (aK.bulk x.ref) + 1 + (x.worker.length + 1) + 1 + 1 + 1
def bn.wf (x:bn):Prop:=(-9223372036854775808≤x.token∧x.token≤9223372036854775807)∧(aK.wf x.ref)∧(-9223372036854775808≤x.attempt∧x.attempt≤9223372036854775807)∧True∧(-9223372036854775808≤x.granted∧x.granted≤9223372036854775807)∧(-9223372036854775808≤x.expires∧x.expires≤9223372036854775807)
def aG.bulk (x:aG):Nat:=(x.project.length + 1) + (x.ref.length + 1) + 1 + 1
def aG.wf (x:aG):Prop:=True∧True∧True
def aC.bulk (x:aC):Nat:=(bn.bulk x.bQ) + (bN.bulk x.job) + (aG.bulk x.origin) + ((List.map (fun z:ak=>(ak.bulk z)) x.bB).sum + 1) + ((List.map (fun z:aj=>(aj.bulk z)) x.artifacts).sum + 1) + ((List.map (fun z:av=>(av.bulk z)) x.entries).sum + 1) + ((List.map (fun z:Str=>(z.length + 1)) x.tests).sum + 1) + ((List.map (fun z:aA=>(aA.bulk z)) x.times).sum + 1) + ((List.map (fun z:Str=>(z.length + 1)) x.ignored).sum + 1) + 1
def aC.wf (x:aC):Prop:=(bn.wf x.bQ)∧(bN.wf x.job)∧(aG.wf x.origin)∧(∀ z∈x.bB,(ak.wf z))∧(∀ z∈x.artifacts,(aj.wf z))∧(∀ z∈x.entries,(av.wf z))∧(∀ z∈x.tests,True)∧(∀ z∈x.times,(aA.wf z))∧(∀ z∈x.ignored,True)
def aI.bulk (x:aI):Nat:=(x.iD.length + 1) + ((List.map (fun z:Str=>(z.length + 1)) x.labels).sum + 1) + 1 + 1 + 1 + 1 + 1 + 1 + ((List.map (fun z:Int=>1) x.tokens).sum + 1) + 1
def aI.wf (x:aI):Prop:=True∧(∀ z∈x.labels,True)∧(-9223372036854775808≤x.trust∧x.trust≤9223372036854775807)∧(-9223372036854775808≤x.slots∧x.slots≤9223372036854775807)∧True∧(-9223372036854775808≤x.phase∧x.phase≤9223372036854775807)∧(-9223372036854775808≤x.gu∧x.gu≤9223372036854775807)∧(-9223372036854775808≤x.bR∧x.bR≤9223372036854775807)∧(∀ z∈x.tokens,(-9223372036854775808≤z∧z≤9223372036854775807))
def ah.bulk (x:ah):Nat:=(x.name.length + 1) + 1 + 1 + 1
def ah.wf (x:ah):Prop:=True∧(-9223372036854775808≤x.status∧x.status≤9223372036854775807)∧(-9223372036854775808≤x.time∧x.time≤9223372036854775807)
def aJ.bulk (x:aJ):Nat:=1 + 1 + ((List.map (fun z:aj=>(aj.bulk z)) x.inputs).sum + 1) + ((List.map (fun z:aj=>(aj.bulk z)) x.outputs).sum + 1) + ((List.map (fun z:ah=>(ah.bulk z)) x.tests).sum + 1) + (x.child.length + 1) + 1
def aJ.wf (x:aJ):Prop:=(-9223372036854775808≤x.status∧x.status≤9223372036854775807)∧(-9223372036854775808≤x.bU∧x.bU≤9223372036854775807)∧(∀ z∈x.inputs,(aj.wf z))∧(∀ z∈x.outputs,(aj.wf z))∧(∀ z∈x.tests,(ah.wf z))∧True
def aU.bulk (x:aU):Nat:=(aJ.bulk x.result) + (x.log.length + 1) + 1 + ((List.map (fun z:av=>(av.bulk z)) x.saves).sum + 1) + 1
def aU.wf (x:aU):Prop:=(aJ.wf x.result)∧True∧(-9223372036854775808≤x.time∧x.time≤9223372036854775807)∧(∀ z∈x.saves,(av.wf z))
def aF.bulk (x:aF):Nat:=(aC.bulk x.work) + 1 + 1 + (aU.bulk x.effect) + 1 + 1 + 1
def aF.wf (x:aF):Prop:=(aC.wf x.work)∧(-9223372036854775808≤x.began∧x.began≤9223372036854775807)∧(-9223372036854775808≤x.done∧x.done≤9223372036854775807)∧(aU.wf x.effect)∧(-9223372036854775808≤x.sent∧x.sent≤9223372036854775807)∧(-9223372036854775808≤x.saved∧x.saved≤9223372036854775807)
def aH.bulk (x:aH):Nat:=(aI.bulk x.worker) + 1 + 1 + 1 + 1 + 1 + ((List.map (fun z:aF=>(aF.bulk z)) x.tasks).sum + 1) + 1
def aH.wf (x:aH):Prop:=(aI.wf x.worker)∧True∧True∧(-9223372036854775808≤x.gu∧x.gu≤9223372036854775807)∧(-9223372036854775808≤x.heard∧x.heard≤9223372036854775807)∧(-9223372036854775808≤x.bR∧x.bR≤9223372036854775807)∧(∀ z∈x.tasks,(aF.wf z))
def au.bulk (x:au):Nat:=1 + (x.name.length + 1) + (aK.bulk x.ref) + 1 + 1 + 1 + (x.text.length + 1) + (aG.bulk x.origin) + ((List.map (fun z:aX=>(aX.bulk z)) x.args).sum + 1) + (aI.bulk x.worker) + (ak.bulk x.secret) + (av.bulk x.entry) + (aJ.bulk x.result) + 1
def au.wf (x:au):Prop:=(-9223372036854775808≤x.kind∧x.kind≤9223372036854775807)∧True∧(aK.wf x.ref)∧(-9223372036854775808≤x.n∧x.n≤9223372036854775807)∧(-9223372036854775808≤x.token∧x.token≤9223372036854775807)∧(-9223372036854775808≤x.bU∧x.bU≤9223372036854775807)∧True∧(aG.wf x.origin)∧(∀ z∈x.args,(aX.wf z))∧(aI.wf x.worker)∧(ak.wf x.secret)∧(av.wf x.entry)∧(aJ.wf x.result)
def zX.bulk (x:zX):Nat:=1 + 1 + 1 + 1 + 1
def zX.wf (x:zX):Prop:=(-9223372036854775808≤x.x∧x.x≤9223372036854775807)∧(-9223372036854775808≤x.y∧x.y≤9223372036854775807)∧True∧True
def gL.bulk (x:gL):Nat:=1 + 1 + 1 + 1 + 1
def gL.wf (x:gL):Prop:=(-9223372036854775808≤x.x∧x.x≤9223372036854775807)∧(-9223372036854775808≤x.y∧x.y≤9223372036854775807)∧True∧True
def zW.bulk (x:zW):Nat:=(x.msg.length + 1) + 1 + 1
def zW.wf (x:zW):Prop:=True∧True
def dV.bulk (x:dV):Nat:=(x.msg.length + 1) + 1 + 1
def dV.wf (x:dV):Prop:=True∧True
def zV.bulk (x:zV):Nat:=(x.iD.length + 1) + ((List.map (fun z:Str=>(z.length + 1)) x.labels).sum + 1) + 1 + 1 + 1 + 1 + 1 + 1 + ((List.map (fun z:Int=>1) x.tokens).sum + 1) + 1
def zV.wf (x:zV):Prop:=True∧(∀ z∈x.labels,True)∧(-9223372036854775808≤x.trust∧x.trust≤9223372036854775807)∧(-9223372036854775808≤x.slots∧x.slots≤9223372036854775807)∧True∧(-9223372036854775808≤x.phase∧x.phase≤9223372036854775807)∧(-9223372036854775808≤x.gu∧x.gu≤9223372036854775807)∧(-9223372036854775808≤x.bR∧x.bR≤9223372036854775807)∧(∀ z∈x.tokens,(-9223372036854775808≤z∧z≤9223372036854775807))
def zU.bulk (x:zU):Nat:=(aI.bulk x.worker) + 1 + 1 + 1 + 1 + 1 + ((List.map (fun z:aF=>(aF.bulk z)) x.tasks).sum + 1) + 1
def zU.wf (x:zU):Prop:=(aI.wf x.worker)∧True∧True∧(-9223372036854775808≤x.gu∧x.gu≤9223372036854775807)∧(-9223372036854775808≤x.heard∧x.heard≤9223372036854775807)∧(-9223372036854775808≤x.bR∧x.bR≤9223372036854775807)∧(∀ z∈x.tasks,(aF.wf z))
def zT.bulk (x:zT):Nat:=(x.run.length + 1) + (x.job.length + 1) + 1
def zT.wf (x:zT):Prop:=True∧True
def zS.bulk (x:zS):Nat:=(x.project.length + 1) + (x.ref.length + 1) + 1 + 1
def zS.wf (x:zS):Prop:=True∧True∧True
def zR.bulk (x:zR):Nat:=(x.name.length + 1) + (x.text.length + 1) + 1 + ((List.map (fun z:Str=>(z.length + 1)) x.refs).sum + 1) + ((List.map (fun z:Str=>(z.length + 1)) x.environments).sum + 1) + 1
def zR.wf (x:zR):Prop:=True∧True∧(-9223372036854775808≤x.level∧x.level≤9223372036854775807)∧(∀ z∈x.refs,True)∧(∀ z∈x.environments,True)
def zQ.bulk (x:zQ):Nat:=(x.project.length + 1) + 1 + (x.ref.length + 1) + 1
def zQ.wf (x:zQ):Prop:=True∧(-9223372036854775808≤x.trust∧x.trust≤9223372036854775807)∧True
def zP.bulk (x:zP):Nat:=(aT.bulk x.scope) + (x.key.length + 1) + 1 + 1 + 1 + 1 + 1
def zP.wf (x:zP):Prop:=(aT.wf x.scope)∧True∧True∧(-9223372036854775808≤x.size∧x.size≤9223372036854775807)∧(-9223372036854775808≤x.created∧x.created≤9223372036854775807)∧(-9223372036854775808≤x.used∧x.used≤9223372036854775807)
def zO.bulk (x:zO):Nat:=1 + 1 + ((List.map (fun z:aj=>(aj.bulk z)) x.inputs).sum + 1) + ((List.map (fun z:aj=>(aj.bulk z)) x.outputs).sum + 1) + ((List.map (fun z:ah=>(ah.bulk z)) x.tests).sum + 1) + (x.child.length + 1) + 1
def zO.wf (x:zO):Prop:=(-9223372036854775808≤x.status∧x.status≤9223372036854775807)∧(-9223372036854775808≤x.bU∧x.bU≤9223372036854775807)∧(∀ z∈x.inputs,(aj.wf z))∧(∀ z∈x.outputs,(aj.wf z))∧(∀ z∈x.tests,(ah.wf z))∧True
def zN.bulk (x:zN):Nat:=1 + (x.name.length + 1) + (aK.bulk x.ref) + 1 + 1 + 1 + (x.text.length + 1) + (aG.bulk x.origin) + ((List.map (fun z:aX=>(aX.bulk z)) x.args).sum + 1) + (aI.bulk x.worker) + (ak.bulk x.secret) + (av.bulk x.entry) + (aJ.bulk x.result) + 1
def zN.wf (x:zN):Prop:=(-9223372036854775808≤x.kind∧x.kind≤9223372036854775807)∧True∧(aK.wf x.ref)∧(-9223372036854775808≤x.n∧x.n≤9223372036854775807)∧(-9223372036854775808≤x.token∧x.token≤9223372036854775807)∧(-9223372036854775808≤x.bU∧x.bU≤9223372036854775807)∧True∧(aG.wf x.origin)∧(∀ z∈x.args,(aX.wf z))∧(aI.wf x.worker)∧(ak.wf x.secret)∧(av.wf x.entry)∧(aJ.wf x.result)
def zM.bulk (x:zM):Nat:=1 + (x.text.length + 1) + 1 + ((List.map (fun z:aC=>(aC.bulk z)) x.work).sum + 1) + 1
def zM.wf (x:zM):Prop:=(-9223372036854775808≤x.code∧x.code≤9223372036854775807)∧True∧(-9223372036854775808≤x.n∧x.n≤9223372036854775807)∧(∀ z∈x.work,(aC.wf z))
def qY.bulk (x:qY):Nat:=1 + (x.text.length + 1) + 1 + ((List.map (fun z:aC=>(aC.bulk z)) x.work).sum + 1) + 1
def qY.wf (x:qY):Prop:=(-9223372036854775808≤x.code∧x.code≤9223372036854775807)∧True∧(-9223372036854775808≤x.n∧x.n≤9223372036854775807)∧(∀ z∈x.work,(aC.wf z))
def zL.bulk (x:zL):Nat:=1 + (aK.bulk x.ref) + 1 + (x.worker.length + 1) + 1 + 1 + 1
def zL.wf (x:zL):Prop:=(-9223372036854775808≤x.token∧x.token≤9223372036854775807)∧(aK.wf x.ref)∧(-9223372036854775808≤x.attempt∧x.attempt≤9223372036854775807)∧True∧(-9223372036854775808≤x.granted∧x.granted≤9223372036854775807)∧(-9223372036854775808≤x.expires∧x.expires≤9223372036854775807)
def zK.bulk (x:zK):Nat:=1 + 1 + 1 + (x.mh.length + 1) + (aD.kC x.jr + 1) + ((List.map (fun z:Str=>(z.length + 1)) x.keys).sum + 1) + 1
def zK.wf (x:zK):Prop:=(-9223372036854775808≤x.kind∧x.kind≤9223372036854775807)∧True∧(-9223372036854775808≤x.mJ∧x.mJ≤9223372036854775807)∧True∧True∧(∀ z∈x.keys,True)
def zJ.bulk (x:zJ):Nat:=1 + (x.name.length + 1) + (aD.bulk x.value) + (aL.kC x.args + 1) + ((List.map (fun z:Str=>(z.length + 1)) x.keys).sum + 1) + 1
def zJ.wf (x:zJ):Prop:=(-9223372036854775808≤x.kind∧x.kind≤9223372036854775807)∧True∧True∧True∧(∀ z∈x.keys,True)
def zI.bulk (x:zI):Nat:=1 + ((List.map (fun z:Int=>1) x.classes).sum + 1) + 1 + 1 + 1
def zI.wf (x:zI):Prop:=(-9223372036854775808≤x.max∧x.max≤9223372036854775807)∧(∀ z∈x.classes,(-9223372036854775808≤z∧z≤9223372036854775807))∧(-9223372036854775808≤x.base∧x.base≤9223372036854775807)∧(-9223372036854775808≤x.cap∧x.cap≤9223372036854775807)
def zH.bulk (x:zH):Nat:=1 + ((List.map (fun z:Str=>(z.length + 1)) x.dJ).sum + 1) + 1 + 1
def zH.wf (x:zH):Prop:=(-9223372036854775808≤x.dK∧x.dK≤9223372036854775807)∧(∀ z∈x.dJ,True)∧(-9223372036854775808≤x.iE∧x.iE≤9223372036854775807)
def zG.bulk (x:zG):Nat:=(x.iD.length + 1) + ((List.map (fun z:Str=>(z.length + 1)) x.needs).sum + 1) + (aL.bulk x.when) + ((List.map (fun z:aX=>(aX.bulk z)) x.vars).sum + 1) + ((List.map (fun z:aQ=>(aQ.bulk z)) x.steps).sum + 1) + ((List.map (fun z:Str=>(z.length + 1)) x.labels).sum + 1) + (x.group.length + 1) + 1 + 1 + 1 + 1 + (bD.bulk x.retry) + ((List.map (fun z:Str=>(z.length + 1)) x.inputs).sum + 1) + ((List.map (fun z:Str=>(z.length + 1)) x.uses).sum + 1) + ((List.map (fun z:Str=>(z.length + 1)) x.outputs).sum + 1) + ((List.map (fun z:aB=>(aB.bulk z)) x.caches).sum + 1) + ((List.map (fun z:Str=>(z.length + 1)) x.bB).sum + 1) + (x.environment.length + 1) + 1 + (aR.bulk x.gate) + ((List.map (fun z:Str=>(z.length + 1)) x.tests).sum + 1) + 1 + 1 + 1 + 1 + 1
def zG.wf (x:zG):Prop:=True∧(∀ z∈x.needs,True)∧True∧(∀ z∈x.vars,(aX.wf z))∧(∀ z∈x.steps,(aQ.wf z))∧(∀ z∈x.labels,True)∧True∧(-9223372036854775808≤x.policy∧x.policy≤9223372036854775807)∧(-9223372036854775808≤x.priority∧x.priority≤9223372036854775807)∧(-9223372036854775808≤x.cost∧x.cost≤9223372036854775807)∧(-9223372036854775808≤x.timeout∧x.timeout≤9223372036854775807)∧(bD.wf x.retry)∧(∀ z∈x.inputs,True)∧(∀ z∈x.uses,True)∧(∀ z∈x.outputs,True)∧(∀ z∈x.caches,(aB.wf z))∧(∀ z∈x.bB,True)∧True∧True∧(aR.wf x.gate)∧(∀ z∈x.tests,True)∧(-9223372036854775808≤x.lN∧x.lN≤9223372036854775807)∧(-9223372036854775808≤x.jA∧x.jA≤9223372036854775807)∧True∧True
def zF.bulk (x:zF):Nat:=(bn.bulk x.bQ) + (bN.bulk x.job) + (aG.bulk x.origin) + ((List.map (fun z:ak=>(ak.bulk z)) x.bB).sum + 1) + ((List.map (fun z:aj=>(aj.bulk z)) x.artifacts).sum + 1) + ((List.map (fun z:av=>(av.bulk z)) x.entries).sum + 1) + ((List.map (fun z:Str=>(z.length + 1)) x.tests).sum + 1) + ((List.map (fun z:aA=>(aA.bulk z)) x.times).sum + 1) + ((List.map (fun z:Str=>(z.length + 1)) x.ignored).sum + 1) + 1
def zF.wf (x:zF):Prop:=(bn.wf x.bQ)∧(bN.wf x.job)∧(aG.wf x.origin)∧(∀ z∈x.bB,(ak.wf z))∧(∀ z∈x.artifacts,(aj.wf z))∧(∀ z∈x.entries,(av.wf z))∧(∀ z∈x.tests,True)∧(∀ z∈x.times,(aA.wf z))∧(∀ z∈x.ignored,True)
def zD.bulk (x:zD):Nat:=((List.map (fun z:bf=>(bf.bulk z)) x.files).sum + 1) + ((List.map (fun z:aj=>(aj.bulk z)) x.artifacts).sum + 1) + ((List.map (fun z:ak=>(ak.bulk z)) x.bB).sum + 1) + ((List.map (fun z:av=>(av.bulk z)) x.caches).sum + 1) + ((List.map (fun z:Str=>(z.length + 1)) x.keys).sum + 1) + ((List.map (fun z:Str=>(z.length + 1)) x.tests).sum + 1) + ((List.map (fun z:aA=>(aA.bulk z)) x.times).sum + 1) + ((List.map (fun z:Str=>(z.length + 1)) x.ignored).sum + 1) + 1 + 1
def zD.wf (x:zD):Prop:=(∀ z∈x.files,(bf.wf z))∧(∀ z∈x.artifacts,(aj.wf z))∧(∀ z∈x.bB,(ak.wf z))∧(∀ z∈x.caches,(av.wf z))∧(∀ z∈x.keys,True)∧(∀ z∈x.tests,True)∧(∀ z∈x.times,(aA.wf z))∧(∀ z∈x.ignored,True)∧(-9223372036854775808≤x.attempt∧x.attempt≤9223372036854775807)
def zC.bulk (x:zC):Nat:=(aJ.bulk x.result) + (x.log.length + 1) + 1 + ((List.map (fun z:av=>(av.bulk z)) x.saves).sum + 1) + 1
def zC.wf (x:zC):Prop:=(aJ.wf x.result)∧True∧(-9223372036854775808≤x.time∧x.time≤9223372036854775807)∧(∀ z∈x.saves,(av.wf z))
def zB.bulk (x:zB):Nat:=(aC.bulk x.work) + 1 + 1 + (aU.bulk x.effect) + 1 + 1 + 1
def zB.wf (x:zB):Prop:=(aC.wf x.work)∧(-9223372036854775808≤x.began∧x.began≤9223372036854775807)∧(-9223372036854775808≤x.done∧x.done≤9223372036854775807)∧(aU.wf x.effect)∧(-9223372036854775808≤x.sent∧x.sent≤9223372036854775807)∧(-9223372036854775808≤x.saved∧x.saved≤9223372036854775807)
def zA.bulk (x:zA):Nat:=(x.path.length + 1) + 1 + 1
def zA.wf (x:zA):Prop:=True∧True
def zy.bulk (x:zy):Nat:=(x.key.length + 1) + ((List.map (fun z:Str=>(z.length + 1)) x.restore).sum + 1) + ((List.map (fun z:Str=>(z.length + 1)) x.files).sum + 1) + 1
def zy.wf (x:zy):Prop:=True∧(∀ z∈x.restore,True)∧(∀ z∈x.files,True)
def zx.bulk (x:zx):Nat:=(x.name.length + 1) + 1 + 1 + 1
def zx.wf (x:zx):Prop:=True∧True∧(-9223372036854775808≤x.size∧x.size≤9223372036854775807)
def zw.bulk (x:zw):Nat:=(x.name.length + 1) + 1 + 1
def zw.wf (x:zw):Prop:=True∧(-9223372036854775808≤x.time∧x.time≤9223372036854775807)
def zu.bulk (x:zu):Nat:=(aG.bulk x.origin) + ((List.map (fun z:bf=>(bf.bulk z)) x.files).sum + 1) + 1
def zu.wf (x:zu):Prop:=(aG.wf x.origin)∧(∀ z∈x.files,(bf.wf z))
def tK.bulk (x:tK):Nat:=(aG.bulk x.origin) + ((List.map (fun z:bf=>(bf.bulk z)) x.files).sum + 1) + 1
def tK.wf (x:tK):Prop:=(aG.wf x.origin)∧(∀ z∈x.files,(bf.wf z))
def zq.bulk (x:zq):Nat:=1 + (x.name.length + 1) + 1 + 1
def zq.wf (x:zq):Prop:=(-9223372036854775808≤x.form∧x.form≤9223372036854775807)∧True∧(-9223372036854775808≤x.n∧x.n≤9223372036854775807)
def o_.bulk (x:o_):Nat:=1 + (x.name.length + 1) + 1 + 1
def o_.wf (x:o_):Prop:=(-9223372036854775808≤x.form∧x.form≤9223372036854775807)∧True∧(-9223372036854775808≤x.n∧x.n≤9223372036854775807)
def zo.bulk (x:zo):Nat:=1 + (x.name.length + 1) + 1 + 1
def zo.wf (x:zo):Prop:=(-9223372036854775808≤x.form∧x.form≤9223372036854775807)∧True∧(-9223372036854775808≤x.n∧x.n≤9223372036854775807)
def gZ.bulk (x:gZ):Nat:=1 + (x.name.length + 1) + 1 + 1
def gZ.wf (x:gZ):Prop:=(-9223372036854775808≤x.form∧x.form≤9223372036854775807)∧True∧(-9223372036854775808≤x.n∧x.n≤9223372036854775807)
def zn.bulk (x:zn):Nat:=1 + (x.name.length + 1) + (x.text.length + 1) + 1 + 1
def zn.wf (x:zn):Prop:=(-9223372036854775808≤x.op∧x.op≤9223372036854775807)∧True∧True∧(-9223372036854775808≤x.n∧x.n≤9223372036854775807)
def zm.bulk (x:zm):Nat:=(x.name.length + 1) + 1 + 1 + 1
def zm.wf (x:zm):Prop:=True∧(-9223372036854775808≤x.status∧x.status≤9223372036854775807)∧(-9223372036854775808≤x.time∧x.time≤9223372036854775807)
def zl.bulk (x:zl):Nat:=(x.name.length + 1) + (aD.bulk x.value) + 1
def zl.wf (x:zl):Prop:=True∧True
def zk.bulk (x:zk):Nat:=(x.text.length + 1) + 1 + (aL.bulk x.expr) + 1
def zk.wf (x:zk):Prop:=True∧True∧True
def qZ.bulk (x:qZ):Nat:=(x.text.length + 1) + 1 + (aL.bulk x.expr) + 1
def qZ.wf (x:qZ):Prop:=True∧True∧True
def zi.bulk (x:zi):Nat:=(x.text.length + 1) + 1 + 1
def zi.wf (x:zi):Prop:=True∧(-9223372036854775808≤x.form∧x.form≤9223372036854775807)
def zh.bulk (x:zh):Nat:=1 + (x.text.length + 1) + 1 + 1
def zh.wf (x:zh):Prop:=(-9223372036854775808≤x.kind∧x.kind≤9223372036854775807)∧True∧(-9223372036854775808≤x.at_∧x.at_≤9223372036854775807)
def gQ.bulk (x:gQ):Nat:=1 + (x.text.length + 1) + 1 + 1
def gQ.wf (x:gQ):Prop:=(-9223372036854775808≤x.kind∧x.kind≤9223372036854775807)∧True∧(-9223372036854775808≤x.at_∧x.at_≤9223372036854775807)
def ze.bulk (x:ze):Nat:=1 + 1
def ze.wf (x:ze):Prop:=(-9223372036854775808≤x.code∧x.code≤9223372036854775807)
def lX.bulk (x:lX):Nat:=1 + 1
def lX.wf (x:lX):Prop:=(-9223372036854775808≤x.code∧x.code≤9223372036854775807)
def za.bulk (x:za):Nat:=((List.map (fun z:gQ=>(gQ.bulk z)) x.ts).sum + 1) + 1 + 1
def za.wf (x:za):Prop:=(∀ z∈x.ts,(gQ.wf z))∧(-9223372036854775808≤x.at_∧x.at_≤9223372036854775807)
def kL.bulk (x:kL):Nat:=((List.map (fun z:gQ=>(gQ.bulk z)) x.ts).sum + 1) + 1 + 1
def kL.wf (x:kL):Prop:=(∀ z∈x.ts,(gQ.wf z))∧(-9223372036854775808≤x.at_∧x.at_≤9223372036854775807)
def y9.bulk (x:y9):Nat:=1 + 1 + 1
def y9.wf (x:y9):Prop:=(-9223372036854775808≤x.at_∧x.at_≤9223372036854775807)∧(-9223372036854775808≤x.code∧x.code≤9223372036854775807)
def jY.bulk (x:jY):Nat:=1 + 1 + 1
def jY.wf (x:jY):Prop:=(-9223372036854775808≤x.at_∧x.at_≤9223372036854775807)∧(-9223372036854775808≤x.code∧x.code≤9223372036854775807)
def y8.bulk (x:y8):Nat:=1 + 1 + 1
def y8.wf (x:y8):Prop:=True∧True
def iY.bulk (x:iY):Nat:=1 + 1 + 1
def iY.wf (x:iY):Prop:=True∧True
def y7.bulk (x:y7):Nat:=(x.s.length + 1) + 1
def y7.wf (x:y7):Prop:=True
def g_.bulk (x:g_):Nat:=(x.s.length + 1) + 1
def g_.wf (x:g_):Prop:=True
def gG (l1:List Str) (qy:Int):Nat→Int→Option Bool
 | 0,_=>none
 | eY + 1,i1=>
  if decide (i1 < (l1.length:Int)) then
   aV (idx l1 i1) fun e1=>
   if decide (qy < (e1.length:Int)) then
    some false
   else
    gG l1 qy eY (fU (i1 + 1))
  else
   some true
def fZ (l1:List Str) (Ch:Int) (qy:Int):Option Bool:=
 if decide (Ch < (l1.length:Int)) then
  some false
 else
  gG l1 qy BIG 0
def dS (j1:bN):Nat→Int→Option Bool
 | 0,_=>none
 | eY + 1,i1=>
  if decide (i1 < (j1.steps.length:Int)) then
   aV (idx j1.steps i1) fun e1=>
   aV (
     if decide (300 < (e1.name.length:Int)) then
      some true
     else
      aV (idx j1.steps i1) fun e2=>
      some (decide (300 < (e2.text.length:Int)))) fun b1=>
   if b1 then
    some false
   else
    dS j1 eY (fU (i1 + 1))
  else
   aV (fZ j1.inputs 6 100) fun x1=>
   aV (
     if x1 then
      fZ j1.uses 20 300
     else
      some false) fun b2=>
   aV (
     if b2 then
      fZ j1.bB 20 300
     else
      some false) fun b3=>
   if b3 then
    fZ j1.outputs 20 300
   else
    some false
def jD (j1:bN):Option Bool:=
 if (decide (70 < (j1.steps.length:Int))) || (decide (10 < (j1.caches.length:Int))) then
  some false
 else
  dS j1 BIG 0
def gH (l1:List Str):Nat→Int→Option Bool
 | 0,_=>none
 | eY + 1,i1=>
  if decide (i1 < (l1.length:Int)) then
   aV (idx l1 i1) fun e1=>
   if decide (100 < (e1.length:Int)) then
    some false
   else
    gH l1 eY (fU (i1 + 1))
  else
   some (decide ((l1.length:Int)≤6))
def kN (l1:List Str):Option Bool:=
 gH l1 BIG 0
def gI (l1:List ak):Nat→Int→Option Bool
 | 0,_=>none
 | eY + 1,i1=>
  if decide (i1 < (l1.length:Int)) then
   aV (idx l1 i1) fun e1=>
   aV (
     if decide (1000 < (e1.name.length:Int)) then
      some true
     else
      aV (idx l1 i1) fun e2=>
      some (decide (1000 < (e2.text.length:Int)))) fun b1=>
   aV (
     if b1 then
      some true
     else
      aV (idx l1 i1) fun e3=>
      aV (kN e3.refs) fun x1=>
      some (!x1)) fun b2=>
   aV (
     if b2 then
      some true
     else
      aV (idx l1 i1) fun e4=>
      aV (kN e4.environments) fun x2=>
      some (!x2)) fun b3=>
   if b3 then
    some false
   else
    gI l1 eY (fU (i1 + 1))
  else
   some true
def mF (l1:List ak):Option Bool:=
 if decide (70 < (l1.length:Int)) then
  some false
 else
  gI l1 BIG 0
def dF (v1:dn):Nat→Int→Option Bool
 | 0,_=>none
 | wo + 1,i2=>
  if decide (i2 < (v1.artifacts.length:Int)) then
   aV (idx v1.artifacts i2) fun e2=>
   if decide (300 < (e2.name.length:Int)) then
    some false
   else
    dF v1 wo (fU (i2 + 1))
  else
   aV (fZ v1.keys 12 600) fun x2=>
   aV (
     if x2 then
      fZ v1.tests 40 300
     else
      some false) fun b2=>
   if b2 then
    fZ v1.ignored 40 300
   else
    some false
def dG (v1:dn):Nat→Int→Option Bool
 | 0,_=>none
 | eY + 1,i1=>
  if decide (i1 < (v1.files.length:Int)) then
   aV (idx v1.files i1) fun e1=>
   if decide (300 < (e1.path.length:Int)) then
    some false
   else
    dG v1 eY (fU (i1 + 1))
  else
   dF v1 BIG 0
def iR (v1:dn):Option Bool:=
 aV (
   if (((decide (30 < (v1.files.length:Int))) || (decide (30 < (v1.artifacts.length:Int)))) || (decide (12 < (v1.caches.length:Int)))) || (decide (60 < (v1.times.length:Int))) then
    some true
   else
    aV (mF v1.bB) fun x1=>
    some (!x1)) fun b1=>
 if b1 then
  some false
 else
  dG v1 BIG 0
def dB (w1:aC):Nat→Int→Option Bool
 | 0,_=>none
 | wo + 1,i2=>
  if decide (i2 < (w1.job.caches.length:Int)) then
   aV (idx w1.job.caches i2) fun e2=>
   if ((decide (300 < (e2.key.length:Int))) || (decide (4 < (e2.restore.length:Int)))) || (decide (4 < (e2.files.length:Int))) then
    some false
   else
    dB w1 wo (fU (i2 + 1))
  else
   some true
def dD (w1:aC):Nat→Int→Option Bool
 | 0,_=>none
 | eY + 1,i1=>
  if decide (i1 < (w1.entries.length:Int)) then
   aV (idx w1.entries i1) fun e1=>
   if decide (600 < (e1.key.length:Int)) then
    some false
   else
    dD w1 eY (fU (i1 + 1))
  else
   dB w1 BIG 0
def iQ (w1:aC):Option Bool:=
 aV (jD w1.job) fun x1=>
 aV (
   if !x1 then
    some true
   else
    aV (iR (dn.mk [] w1.artifacts w1.bB [] [] w1.tests w1.times w1.ignored 0)) fun x2=>
    some (!x2)) fun b1=>
 if (b1 || (decide (20 < (w1.entries.length:Int)))) || (decide (8 < (w1.job.vars.length:Int))) then
  some false
 else
  dD w1 BIG 0
def gD (a1:aH):Nat→Int→Option Bool
 | 0,_=>none
 | eY + 1,i1=>
  if decide (i1 < (a1.tasks.length:Int)) then
   aV (idx a1.tasks i1) fun e1=>
   aV (iQ e1.work) fun x1=>
   aV (
     if ((((((!x1) || (decide (5000 < (e1.effect.log.length:Int)))) || (decide (80 < (e1.effect.saves.length:Int)))) || (decide (e1.sent < 0))) || (decide (e1.saved < 0))) || (decide ((e1.effect.log.length:Int) < e1.sent))) || (decide ((e1.effect.saves.length:Int) < e1.saved)) then
      some true
     else
      if decide (0 < i1) then
       aV (idx a1.tasks (fU (i1 - 1))) fun e2=>
       some (decide (e1.work.bQ.token≤e2.work.bQ.token))
      else
       some false) fun b1=>
   if b1 then
    some false
   else
    gD a1 eY (fU (i1 + 1))
  else
   some true
def kM (a1:aH):Option Bool:=
 if (decide (8 < (a1.tasks.length:Int))) || (decide (40 < (a1.worker.labels.length:Int))) then
  some false
 else
  gD a1 BIG 0
def jP :Option Bool:=some true
def gJ (a1:List Str) (b1:List Str):Nat→Int→Option Bool
 | 0,_=>none
 | eY + 1,i1=>
  if decide (i1 < (a1.length:Int)) then
   aV (idx a1 i1) fun e1=>
   aV (idx b1 i1) fun e2=>
   if !(e1 == e2) then
    some false
   else
    gJ a1 b1 eY (fU (i1 + 1))
  else
   some true
def mG (a1:List Str) (b1:List Str):Option Bool:=
 if (a1.length:Int) != (b1.length:Int) then
  some false
 else
  gJ a1 b1 BIG 0
def fB (a1:List Int) (b1:List Int):Nat→Int→Option Bool
 | 0,_=>none
 | eY + 1,i1=>
  if decide (i1 < (a1.length:Int)) then
   aV (idx a1 i1) fun e1=>
   aV (idx b1 i1) fun e2=>
   if e1 != e2 then
    some false
   else
    fB a1 b1 eY (fU (i1 + 1))
  else
   some true
def j_ (a1:List Int) (b1:List Int):Option Bool:=
 if (a1.length:Int) != (b1.length:Int) then
  some false
 else
  fB a1 b1 BIG 0
def mH (a1:aI) (b1:aI):Option Bool:=
 aV (
   if a1.iD == b1.iD then
    mG a1.labels b1.labels
   else
    some false) fun b2=>
 if (((((b2 && (a1.trust == b1.trust)) && (a1.slots == b1.slots)) && (a1.cu == b1.cu)) && (a1.phase == b1.phase)) && (a1.gu == b1.gu)) && (a1.bR == b1.bR) then
  j_ a1.tokens b1.tokens
 else
  some false
def iy (a1:List Str) (b1:List Str):Nat→Int→Option Bool
 | 0,_=>none
 | eY + 1,i1=>
  if decide (i1 < (a1.length:Int)) then
   aV (idx a1 i1) fun e1=>
   aV (idx b1 i1) fun e2=>
   if !(e1 == e2) then
    some false
   else
    iy a1 b1 eY (fU (i1 + 1))
  else
   some true
def kg (a1:List Str) (b1:List Str):Option Bool:=
 if (a1.length:Int) != (b1.length:Int) then
  some false
 else
  iy a1 b1 BIG 0
def kP (a1:ak) (b1:ak):Option Bool:=
 aV (
   if ((a1.name == b1.name) && (a1.text == b1.text)) && (a1.level == b1.level) then
    kg a1.refs b1.refs
   else
    some false) fun b2=>
 if b2 then
  kg a1.environments b1.environments
 else
  some false
def fq (a1:List aj) (b1:List aj):Nat→Int→Option Bool
 | 0,_=>none
 | eY + 1,i1=>
  if decide (i1 < (a1.length:Int)) then
   aV (idx a1 i1) fun e1=>
   aV (idx b1 i1) fun e2=>
   if !(aj.oC e1 e2) then
    some false
   else
    fq a1 b1 eY (fU (i1 + 1))
  else
   some true
def ig (a1:List aj) (b1:List aj):Option Bool:=
 if (a1.length:Int) != (b1.length:Int) then
  some false
 else
  fq a1 b1 BIG 0
def iw (a1:List ah) (b1:List ah):Nat→Int→Option Bool
 | 0,_=>none
 | eY + 1,i1=>
  if decide (i1 < (a1.length:Int)) then
   aV (idx a1 i1) fun e1=>
   aV (idx b1 i1) fun e2=>
   if !(ah.oC e1 e2) then
    some false
   else
    iw a1 b1 eY (fU (i1 + 1))
  else
   some true
def nZ (a1:List ah) (b1:List ah):Option Bool:=
 if (a1.length:Int) != (b1.length:Int) then
  some false
 else
  iw a1 b1 BIG 0
def jo (a1:aJ) (b1:aJ):Option Bool:=
 aV (
   if ((a1.status == b1.status) && (a1.bU == b1.bU)) && (a1.child == b1.child) then
    ig a1.inputs b1.inputs
   else
    some false) fun b2=>
 aV (
   if b2 then
    ig a1.outputs b1.outputs
   else
    some false) fun b3=>
 if b3 then
  nZ a1.tests b1.tests
 else
  some false
end Go.Ft
