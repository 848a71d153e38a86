/- Chapter 21: the data of clusters as Lean structures, and their cells. Conditions: none. -/
import Derived.Test.YtelohjccoimnaaaDoorMr
namespace Go.Hh
open Go Go.Av

structure Val where
  kind : Int
  n : Int
  s : ByteArray
structure Attr where
  name : ByteArray
  kind : Int
  min : Int
  max : Int
  enum : List ByteArray
  writable : Bool
  safety : Bool
structure Effect where
  kind : Int
  attr : ByteArray
  n : Int
structure Command where
  name : ByteArray
  param : Attr
  effects : List Effect
structure Cluster where
  name : ByteArray
  attrs : List Attr
  commands : List Command
  events : List ByteArray

instance : Inhabited Val := ⟨⟨0, 0, ByteArray.empty⟩⟩
instance : Inhabited Attr := ⟨⟨ByteArray.empty, 0, 0, 0, [], false, false⟩⟩
instance : Inhabited Effect := ⟨⟨0, ByteArray.empty, 0⟩⟩
instance : Inhabited Command := ⟨⟨ByteArray.empty, default, []⟩⟩
instance : Inhabited Cluster := ⟨⟨ByteArray.empty, [], [], []⟩⟩

def Val.cells (v : Val) : List RV := [.v (.int .i64 v.kind), .v (.int .i64 v.n), .v (.string v.s)]
def Effect.cells (x : Effect) : List RV := [.v (.int .i64 x.kind), .v (.string x.attr), .v (.int .i64 x.n)]
def Attr.cells (a : Attr) : List RV := [.v (.string a.name), .v (.int .i64 a.kind), .v (.int .i64 a.min), .v (.int .i64 a.max), .sl 1 (a.enum.map strC), .v (.bool a.writable), .v (.bool a.safety)]
def Command.cells (d : Command) : List RV := .v (.string d.name) :: (d.param.cells ++ [.sl 3 (d.effects.map Effect.cells)])
def Cluster.cells (c : Cluster) : List RV := [.v (.string c.name), .sl 7 (c.attrs.map Attr.cells), .sl 9 (c.commands.map Command.cells), .sl 1 (c.events.map strC)]
/-- Slices that can be cloned. -/
def Fit (c : Cluster) : Prop := (∀ a ∈ c.attrs, a.enum.length ≤ 1000000) ∧ (∀ d ∈ c.commands, d.param.enum.length ≤ 1000000 ∧ d.effects.length ≤ 1000000)
end Go.Hh
