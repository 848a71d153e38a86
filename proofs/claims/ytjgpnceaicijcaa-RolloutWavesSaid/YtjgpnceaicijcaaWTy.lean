/- Chapter 51: the data as Lean structures, and their cells. Conditions: none. -/
import Derived.Test.YtjgpnceaicijcaaWNa
namespace Go.Hh
open Go Go.Av
structure Val where
  kind : Int
  n : Int
  s : ByteArray
structure Attr where
  name : ByteArray
  kind : Int
  min : Int
  max : Int
  enum : List ByteArray
  writable : Bool
  safety : Bool
structure Effect where
  kind : Int
  attr : ByteArray
  n : Int
structure Command where
  name : ByteArray
  param : Attr
  effects : List Effect
structure Cluster where
  name : ByteArray
  attrs : List Attr
  commands : List Command
  events : List ByteArray
structure Dev where
  id : Int
  eui : Int
  vendor : Int
  sleepy : Bool
  poll : Int
  room : ByteArray
  clusters : List ByteArray
structure Home where
  clusters : List Cluster
  devices : List Dev
structure Firmware where
  vendor : Int
  version : Int
  sums : List Int
structure Update where
  dev : Int
  status : Int
  version : Int
  previous : Int
  since : Int
  have_ : List Bool
structure Op51 where
  kind : Int
  dev : Int
  now : Int
  ok : Bool
  have_ : List Bool
structure Pair where
  a0 : Int
  a1 : Int

instance : Inhabited Val := ⟨⟨0, 0, ByteArray.empty⟩⟩
instance : Inhabited Attr := ⟨⟨ByteArray.empty, 0, 0, 0, [], false, false⟩⟩
instance : Inhabited Effect := ⟨⟨0, ByteArray.empty, 0⟩⟩
instance : Inhabited Command := ⟨⟨ByteArray.empty, default, []⟩⟩
instance : Inhabited Cluster := ⟨⟨ByteArray.empty, [], [], []⟩⟩
instance : Inhabited Dev := ⟨⟨0, 0, 0, false, 0, ByteArray.empty, []⟩⟩
instance : Inhabited Home := ⟨⟨[], []⟩⟩
instance : Inhabited Firmware := ⟨⟨0, 0, []⟩⟩
instance : Inhabited Update := ⟨⟨0, 0, 0, 0, 0, []⟩⟩
instance : Inhabited Op51 := ⟨⟨0, 0, 0, false, []⟩⟩
instance : Inhabited Pair := ⟨⟨0, 0⟩⟩

def Val.cells (x : Val) : List RV := [.v (.int .i64 x.kind), .v (.int .i64 x.n), .v (.string x.s)]
def Attr.cells (x : Attr) : List RV := [.v (.string x.name), .v (.int .i64 x.kind), .v (.int .i64 x.min), .v (.int .i64 x.max), .sl 1 (x.enum.map strC), .v (.bool x.writable), .v (.bool x.safety)]
def Effect.cells (x : Effect) : List RV := [.v (.int .i64 x.kind), .v (.string x.attr), .v (.int .i64 x.n)]
def Command.cells (x : Command) : List RV := .v (.string x.name) :: (x.param.cells ++ [.sl 3 (x.effects.map Effect.cells)])
def Cluster.cells (x : Cluster) : List RV := [.v (.string x.name), .sl 7 (x.attrs.map Attr.cells), .sl 9 (x.commands.map Command.cells), .sl 1 (x.events.map strC)]
def Dev.cells (x : Dev) : List RV := [.v (.int .i64 x.id), .v (.int .u64 x.eui), .v (.int .i64 x.vendor), .v (.bool x.sleepy), .v (.int .i64 x.poll), .v (.string x.room), .sl 1 (x.clusters.map strC)]
def Home.cells (x : Home) : List RV := [.sl 4 (x.clusters.map Cluster.cells), .sl 7 (x.devices.map Dev.cells)]
def Firmware.cells (x : Firmware) : List RV := [.v (.int .i64 x.vendor), .v (.int .i64 x.version), .sl 1 (x.sums.map intC)]
def Update.cells (x : Update) : List RV := [.v (.int .i64 x.dev), .v (.int .i64 x.status), .v (.int .i64 x.version), .v (.int .i64 x.previous), .v (.int .i64 x.since), .sl 1 (x.have_.map boolC)]
def Op51.cells (x : Op51) : List RV := [.v (.int .i64 x.kind), .v (.int .i64 x.dev), .v (.int .i64 x.now), .v (.bool x.ok), .sl 1 (x.have_.map boolC)]
def Pair.cells (x : Pair) : List RV := [.v (.int .i64 x.a0), .v (.int .i64 x.a1)]
/-- Slices that can be cloned. -/
def FitA (c : Cluster) : Prop := ∀ a ∈ c.attrs, a.enum.length ≤ 1000000
end Go.Hh
